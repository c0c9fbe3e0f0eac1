/-
  Numbers read from their decimal forms, by the program and by the reference.
  No conditions.
-/
import Derived.Test.YtlkjechbejfnhaaGreatDoorED
import Derived.Test.YtlkjechbejfnhaaGreatDoorD1
import Derived.Test.YtlkjechbejfnhaaGreatDoorND0
import Derived.Test.YtlkjechbejfnhaaGreatDoorV0
import Derived.Stop.IfaceNil
set_option linter.unusedVariables false
set_option linter.unusedSimpArgs false
set_option maxHeartbeats 4000000
namespace Go.Eng
open Go Go.RowKit Go.Proofs
set_option maxRecDepth 100000
theorem grown_below {w w' : World} (h : Below w.heap.size w w') (row : Option Nat) : w.grownBy w' row := ⟨h.os, h.tape, h.output, h.size, fun k hk _ => h.block k hk⟩
/-- A contract from what a call does: whatever data it hands back. -/
theorem FnC.of_calls_some {P : Program} {f : FuncId} {G : Nat → Option (List D)} {ds : List D} {post : D → Prop} (hok : FnOK P f)
    (h : ∀ (w : World) (F : Nat → Prop) (vs : List Value), (∀ b, F b → b < w.heap.size) → vs.length = ds.length → (∀ i, i < ds.length → RO F w (vs.getD i undef) (ds.getD i .junk)) → (∀ g cs, G g = some cs → GlobOK F w g cs) →
      Calls P f vs.toArray w fun e w' => ∃ v d, e = .returned v ∧ post d ∧ w.grownBy w' none ∧ RO (fun b => F b ∨ (w.heap.size ≤ b ∧ b < w'.heap.size)) w' v d) : FnC P f G 0 [] ds (fun d' os => post d' ∧ os = []) := by
  refine ⟨hok, fun X β w vs hP hw0 hβ0 hW hl hrep => ?_⟩
  have hβ : β = fun _ => none := by
    funext o
    cases ho : β o with
    | none => rfl
    | some x => exact absurd (hW.dom o x ho).1 (by simp [stOf, St.n])
  subst hβ
  refine (h w (FX X (stOf [] G 0) (fun _ => none) w) vs (fun b hb => hb.1) hl (fun i hi => (hrep i hi).ro_of_none) (fun g cs hg => hW.glob g cs hg)).mono ?_
  rintro e w' ⟨v, d, rfl, hpost, hg, hv⟩
  have hF : ∀ b, FX X (stOf [] G 0) (fun _ => none) w b → FX X (stOf [] G 0) (fun _ => none) w' b ∧ w'.heap[b]? = w.heap[b]? := fun b hb =>
    ⟨⟨Nat.lt_of_lt_of_le hb.1 hg.size, hb.2.1, hb.2.2⟩, hg.block b hb.1 (by simp)⟩
  refine ⟨v, d, [], fun _ => none, rfl, ⟨fun o x hx => (by cases hx), fun o ho => absurd ho (by simp [stOf, St.n]), fun o o' x x' b hx => (by cases hx), fun o x b hx => (by cases hx), ?_, fun g cs hgl => (hW.glob g cs hgl).mono hF, fun o ho => absurd ho (by simp [stOf]), Nat.zero_le _⟩,
    .ro _ _ (hv.mono fun b hb => ⟨?_, rfl⟩), fun o ho => (by cases ho), hpost, rfl⟩
  · subst hw0
    exact ⟨hg.os, hg.tape, hg.output, hg.size, fun k hk _ => hg.block k hk (by simp)⟩
  · rcases hb with hb | ⟨h1, h2⟩
    · exact (hF b hb).1
    · exact ⟨h2, .inr (.inl (by rw [hw0]; exact h1)), fun o ho => absurd ho (by simp [stOf, St.n])⟩
/-- An interface value that is not nil. -/
def isIfc (v : Value) : Prop := ∃ t p, v = .iface t p
/-- The table of powers of ten, and the two errors of the library's reading of numbers. -/
def GE (e1 e2 : Value) : Nat → Option (List D) := fun g => if g = 3 then some (Lib.pow10Tab.map fun z => .int .u64 z) else if g = 1 then some [.v e1] else if g = 2 then some [.v e2] else none
theorem FnC.atE {f : FuncId} {pin : Nat} {os : List Obj} {ds : List D} {post : D → List Obj → Prop} (h : FnC Tryz.prog f GP pin os ds post) (e1 e2 : Value) : FnC Tryz.prog f (GE e1 e2) pin os ds post :=
  h.moreG fun g cs hg => by
    unfold GP G1 at hg
    split at hg
    · rename_i e
      cases hg
      unfold GE
      rw [if_pos e]
    · cases hg
theorem glob_cell {F : Nat → Prop} {w : World} {g : Nat} {e : Value} (h : GlobOK F w g [.v e]) : w.cell? ⟨g, 0, none⟩ = some e := by
  obtain ⟨hro, _, _⟩ := h
  obtain ⟨b, off, c, hv, _, hc, hr⟩ := hro.rp_cases
  simp only [Value.pointer.injEq, Option.some.injEq, Addr.mk.injEq] at hv
  obtain ⟨rfl, rfl, _⟩ := hv
  have h1 := hc 0 Nat.zero_lt_one
  have h2 : RO F w (c 0) (.v e) := hr 0 Nat.zero_lt_one
  rw [show (0 + 0 : Nat) = 0 by omega] at h1
  rw [h1.1, (Rep.ro (β := fun _ => none) _ _ h2).v_inv]
/-- A package variable that holds an error. -/
theorem ifc_of_trod {H : Type} {enc : TypeId × Value → H} {P : Program} {w : World} {base : Nat} {sp : Nat → Bool} {held : Bool} {fuel : Nat} {t : TypeId} {cs : List Value} {n : String} {d : DataW H} {p : List MemPlace} (ht : P.isIface t = true)
    (h : DataW.trod enc P w base sp held fuel t cs = some (.iface n d, p)) : ∃ u v, cs = [.iface u v] := by
  obtain ⟨ms, hu⟩ := underlying_of_isIface ht
  cases fuel with
  | zero => cases h
  | succ f =>
    unfold DataW.trod at h
    rw [hu] at h
    match cs, h with
    | [.iface u v], _ => exact ⟨u, v, rfl⟩
    | [.nilIface], h => simp at h
    | [], h => simp at h
    | [.bool _], h => simp at h
    | [.int _ _], h => simp at h
    | [.float _ _], h => simp at h
    | [.complex _ _ _], h => simp at h
    | [.string _], h => simp at h
    | [.pointer _], h => simp at h
    | [.slice _ _ _], h => simp at h
    | [.map _], h => simp at h
    | [.chan _], h => simp at h
    | [.nilFunc], h => simp at h
    | [.func _ _ _], h => simp at h
    | [.agg _], h => simp at h
    | [.tuple _], h => simp at h
    | _ :: _ :: _, h => simp at h
theorem glob_ifc {P : Program} {w : World} {name : String} {g : Nat} {cs : Array Value} {u : TypeId} {v : Value} (hg : P.globalNamed name = some g) (hv : w.var? P name = some cs) (h : cs.toList = [.iface u v]) : GlobOK (fun b => b < w.heap.size) w g [.v (.iface u v)] := by
  refine glob_of hg hv (by rw [h]; rfl) (fun j hj => ?_)
  have hj0 : j = 0 := by simpa using hj
  subst hj0
  exact ⟨_, by rw [h]; rfl, rfl, .v _⟩
theorem list3 {vs : List Value} (h : vs.length = 3) : vs = [vs.getD 0 undef, vs.getD 1 undef, vs.getD 2 undef] := by
  match vs, h with
  | [a, b, c], _ => rfl
theorem c_ParseInt_ok (e1 e2 : Value) (s : List UInt8) (v : Int) (hs : s.length ≤ 1048576) (h : Lib.parseIntB 64 s = .ok v) : FnC Tryz.prog 174 (GE e1 e2) 0 [] [.str s, .int .i64 10, .int .i64 64] (fun d os => d = .tup [.int .i64 v, .v .nilIface] ∧ os = []) := by
  refine FnC.of_calls (callFunc_enter Tryz.func174 rfl (by decide +kernel)) fun w F vs hF hl hr hG => ?_
  have h0 : vs.getD 0 undef = .string ⟨s.toArray⟩ := (Rep.ro (β := fun _ => none) _ _ (hr 0 (Nat.lt_of_sub_eq_succ rfl))).str_inv
  have h1 : vs.getD 1 undef = .int .i64 10 := (Rep.ro (β := fun _ => none) _ _ (hr 1 (Nat.lt_of_sub_eq_succ rfl))).int_inv
  have h2 : vs.getD 2 undef = .int .i64 64 := (Rep.ro (β := fun _ => none) _ _ (hr 2 (Nat.lt_of_sub_eq_succ rfl))).int_inv
  rw [list3 hl, h0, h1, h2]
  refine (Tryz.strconv_ParseInt_10_at64_ok ⟨s.toArray⟩ (by simp [ByteArray.size]; omega) v (by simpa using h) w).mono ?_
  rintro e w' ⟨rfl, hw⟩
  refine ⟨_, rfl, ?_, .tup [_, _] [_, _] rfl fun i hi => ?_⟩
  · rcases hw with rfl | ⟨t, rfl⟩
    · exact grown_below (Below.refl _ _) none
    · exact grown_below (Lib.bytesWorld_below _ _ _) none
  · match i, hi with
    | 0, _ => exact .int _ _
    | 1, _ => exact .v _
theorem c_ParseInt_bad (e1 e2 : Value) (hif : isIfc e1) (s : List UInt8) (hs : s.length ≤ 1048576) (h : Lib.parseIntB 64 s = .syntax) : FnC Tryz.prog 174 (GE e1 e2) 0 [] [.str s, .int .i64 10, .int .i64 64] (fun d os => (∃ t p, d = .tup [.int .i64 0, .v (.iface t p)]) ∧ os = []) := by
  refine FnC.of_calls_some (callFunc_enter Tryz.func174 rfl (by decide +kernel)) fun w F vs hF hl hr hG => ?_
  have h0 : vs.getD 0 undef = .string ⟨s.toArray⟩ := (Rep.ro (β := fun _ => none) _ _ (hr 0 (Nat.lt_of_sub_eq_succ rfl))).str_inv
  have h1 : vs.getD 1 undef = .int .i64 10 := (Rep.ro (β := fun _ => none) _ _ (hr 1 (Nat.lt_of_sub_eq_succ rfl))).int_inv
  have h2 : vs.getD 2 undef = .int .i64 64 := (Rep.ro (β := fun _ => none) _ _ (hr 2 (Nat.lt_of_sub_eq_succ rfl))).int_inv
  rw [list3 hl, h0, h1, h2]
  have hg : w.cell? ⟨1, 0, none⟩ = some e1 := glob_cell (hG 1 [.v e1] rfl)
  refine (Tryz.strconv_ParseInt_10_at64_syntax ⟨s.toArray⟩ (by simp [ByteArray.size]; omega) (by simpa using h) e1 w hg (.inr hif)).mono ?_
  rintro e w' ⟨N, rfl, _, _, hb⟩
  refine ⟨_, .tup [.int .i64 0, .v (.iface 355 (.pointer (some ⟨N, 0, none⟩)))], rfl, ⟨_, _, rfl⟩, grown_below hb none, .tup [.int .i64 0, .iface 355 (.pointer (some ⟨N, 0, none⟩))] [_, _] rfl fun i hi => ?_⟩
  match i, hi with
  | 0, _ => exact .int _ _
  | 1, _ => exact .v _
/-- Does a text begin with another one? -/
def preB (l p : List UInt8) : Bool := l.take p.length == p
theorem preB_short {l p : List UInt8} (h : l.length < p.length) : preB l p = false := by
  unfold preB
  rw [beq_eq_false_iff_ne]
  intro e
  have := congrArg List.length e
  rw [List.length_take] at this
  omega
theorem c_HasPrefix (l p : List UInt8) : FnC Tryz.prog 322 G0 0 [] [.str l, .str p] (fun d os => d = .bool (preB l p) ∧ os = []) := by
  refine fn_rule Tryz.func322 rfl (by decide +kernel) rfl (fun w0 F0 lent β0 => ?_)
  repeat' (first | refine sC ?_ | ((with_reducible refine isAwp ?_); first | (refine sS ?_; intro Q' hn he hr) | refine sA ?_) | (refine sH ?_; clear hn he hr Q') | refine sO ?_ | ((conv => whnf); first | refine sK ?_ | (refine sB ?_; repeat' (first | refine sb0 ?_ | (refine sb2 ?_ ?_ <;> intro hb <;> try exact cls))) | refine sP ?_ | (refine sE ?_; intro x hx) | (refine sF ?_; intro i y hi hy) | (refine sI ?_; intro i hi) | (refine sL ?_; intro hlen) | (refine sQ ?_; intro c hc hcm; try simp only [lnM, lnA, lnC, lnN] at hc) | (refine sX ?_; intro i1 i2 hi1 hi2 hj1 hj2; try simp only [cutL, lnM, lnA, lnC, lnN, lnT, lnD, lnR] at hi1 hi2 hj2) | refine sD ?_ | (refine ret_pick [] rfl rfl rfl ⟨?_, rfl⟩; conv => lhs; whnf) | (refine ret_pick [0] rfl rfl rfl ⟨rfl, ?_⟩) | (refine sH ?_; clear hn he hr Q')))
  · rfl
  · rw [preB_short (by omega)]
theorem c_stringslite_TrimPrefix (l p : List UInt8) : FnC Tryz.prog 285 G0 0 [] [.str l, .str p] (fun d os => d = .str (if preB l p = true then l.drop p.length else l) ∧ os = []) := by
  have hle : preB l p = true → p.length ≤ l.length := fun h => by
    apply Classical.byContradiction
    intro h2
    rw [preB_short (by omega)] at h
    cases h
  refine fn_rule Tryz.func285 rfl (by decide +kernel) rfl (fun w0 F0 lent β0 => ?_)
  cases hp : preB l p with
  | true =>
    have hc := c_HasPrefix l p
    rw [hp] at hc
    have := hle hp
    repeat' (first | refine sC ?_ | ((with_reducible refine isAwp ?_); first | (refine sS ?_; intro Q' hn he hr) | refine sA ?_) | (refine sH ?_; clear hn he hr Q') | refine sO ?_ | ((conv => whnf); first | refine sK ?_ | (refine sB ?_; repeat' (first | refine sb0 ?_ | (refine sb2 ?_ ?_ <;> intro hb <;> try exact cls))) | (refine CutS.nn (by omega) (Nat.le_refl _) ?_) | ((with_reducible refine isCall ?_); first | (refine call_pure (hc) rfl rfl ?_)) | ((with_reducible refine isCallQ ?_); first | (refine callQ_pure (hc) rfl rfl ?_)) | refine sP ?_ | (refine sE ?_; intro x hx) | (refine sF ?_; intro i y hi hy) | (refine sI ?_; intro i hi) | (refine sL ?_; intro hlen) | (refine sQ ?_; intro c hc hcm; try simp only [lnM, lnA, lnC, lnN] at hc) | (refine sX ?_; intro i1 i2 hi1 hi2 hj1 hj2; try simp only [cutL, lnM, lnA, lnC, lnN, lnT, lnD, lnR] at hi1 hi2 hj2) | refine sD ?_ | (refine ret_pick [] rfl rfl rfl ⟨?_, rfl⟩; conv => lhs; whnf) | (refine ret_pick [0] rfl rfl rfl ⟨rfl, ?_⟩) | (refine sH ?_; clear hn he hr Q')))
    all_goals rfl
  | false =>
    have hc := c_HasPrefix l p
    rw [hp] at hc
    repeat' (first | refine sC ?_ | ((with_reducible refine isAwp ?_); first | (refine sS ?_; intro Q' hn he hr) | refine sA ?_) | (refine sH ?_; clear hn he hr Q') | refine sO ?_ | ((conv => whnf); first | refine sK ?_ | (refine sB ?_; repeat' (first | refine sb0 ?_ | (refine sb2 ?_ ?_ <;> intro hb <;> try exact cls))) | ((with_reducible refine isCall ?_); first | (refine call_pure (hc) rfl rfl ?_)) | ((with_reducible refine isCallQ ?_); first | (refine callQ_pure (hc) rfl rfl ?_)) | refine sP ?_ | (refine sE ?_; intro x hx) | (refine sF ?_; intro i y hi hy) | (refine sI ?_; intro i hi) | (refine sL ?_; intro hlen) | (refine sQ ?_; intro c hc hcm; try simp only [lnM, lnA, lnC, lnN] at hc) | (refine sX ?_; intro i1 i2 hi1 hi2 hj1 hj2; try simp only [cutL, lnM, lnA, lnC, lnN, lnT, lnD, lnR] at hi1 hi2 hj2) | refine sD ?_ | (refine ret_pick [] rfl rfl rfl ⟨?_, rfl⟩; conv => lhs; whnf) | (refine ret_pick [0] rfl rfl rfl ⟨rfl, ?_⟩) | (refine sH ?_; clear hn he hr Q')))
    all_goals rfl
theorem c_strings_TrimPrefix (l p : List UInt8) : FnC Tryz.prog 228 G0 0 [] [.str l, .str p] (fun d os => d = .str (if preB l p = true then l.drop p.length else l) ∧ os = []) := by
  refine fn_rule Tryz.func228 rfl (by decide +kernel) rfl (fun w0 F0 lent β0 => ?_)
  repeat' (first | refine sC ?_ | ((with_reducible refine isAwp ?_); first | (refine sS ?_; intro Q' hn he hr) | refine sA ?_) | (refine sH ?_; clear hn he hr Q') | refine sO ?_ | ((conv => whnf); first | refine sK ?_ | (refine sB ?_; repeat' (first | refine sb0 ?_ | (refine sb2 ?_ ?_ <;> intro hb <;> try exact cls))) | ((with_reducible refine isCall ?_); first | (refine call_pure (c_stringslite_TrimPrefix l p) rfl rfl ?_)) | ((with_reducible refine isCallQ ?_); first | (refine callQ_pure (c_stringslite_TrimPrefix l p) rfl rfl ?_)) | refine sP ?_ | (refine sE ?_; intro x hx) | (refine sF ?_; intro i y hi hy) | (refine sI ?_; intro i hi) | (refine sL ?_; intro hlen) | (refine sQ ?_; intro c hc hcm; try simp only [lnM, lnA, lnC, lnN] at hc) | (refine sX ?_; intro i1 i2 hi1 hi2 hj1 hj2; try simp only [cutL, lnM, lnA, lnC, lnN, lnT, lnD, lnR] at hi1 hi2 hj2) | refine sD ?_ | (refine ret_pick [] rfl rfl rfl ⟨?_, rfl⟩; conv => lhs; whnf) | (refine ret_pick [0] rfl rfl rfl ⟨rfl, ?_⟩) | (refine sH ?_; clear hn he hr Q')))
theorem digsOf_pre (s : List UInt8) : (if preB s [45] = true then s.drop 1 else s) = digsOf s := by
  have e : preB s [45] = neg45 s := by
    cases s with
    | nil => rfl
    | cons c r => simp [preB, neg45]
  unfold digsOf
  rw [e]
set_option maxHeartbeats 4000000 in
theorem c_impl_ReadDecimal (e1 e2 : Value) (hif : isIfc e1) (s : List UInt8) (hs : s.length ≤ 1048576) : FnC Tryz.prog 171 (GE e1 e2) 0 [] [.str s] (fun d os => d = .tup [.int .i64 (readN s).1, .bool (readN s).2] ∧ os = []) := by
  have ht := c_strings_TrimPrefix s [45]
  rw [show (if preB s [45] = true then s.drop ([45] : List UInt8).length else s) = digsOf s from digsOf_pre s] at ht
  by_cases h1 : (digsOf s).length < 1
  · have hn : readN s = (0, false) := by unfold readN numOk; rw [if_neg]; simp; omega
    rw [hn]
    refine fn_rule Tryz.func171 rfl (by decide +kernel) rfl (fun w0 F0 lent β0 => ?_)
    repeat' (first | refine sC ?_ | ((with_reducible refine isAwp ?_); first | (refine sS ?_; intro Q' hn he hr) | refine sA ?_) | (refine sH ?_; clear hn he hr Q') | refine sO ?_ | ((conv => whnf); first | refine sK ?_ | (refine sB ?_; repeat' (first | refine sb0 ?_ | (refine sb2 ?_ ?_ <;> intro hb <;> try exact cls))) | ((with_reducible refine isCall ?_); first | (refine call_pure (FnC.anyG (ht)) rfl rfl ?_)) | ((with_reducible refine isCallQ ?_); first | (refine callQ_pure (FnC.anyG (ht)) rfl rfl ?_)) | refine sP ?_ | (refine sE ?_; intro x hx) | (refine sF ?_; intro i y hi hy) | (refine sI ?_; intro i hi) | (refine sL ?_; intro hlen) | (refine sQ ?_; intro c hc hcm; try simp only [lnM, lnA, lnC, lnN] at hc) | (refine sX ?_; intro i1 i2 hi1 hi2 hj1 hj2; try simp only [cutL, lnM, lnA, lnC, lnN, lnT, lnD, lnR] at hi1 hi2 hj2) | refine sD ?_ | (refine ret_pick [] rfl rfl rfl ⟨?_, rfl⟩; conv => lhs; whnf) | (refine ret_pick [0] rfl rfl rfl ⟨rfl, ?_⟩) | (refine sH ?_; clear hn he hr Q')))
    all_goals rfl
  by_cases h2 : 18 < (digsOf s).length
  · have hn : readN s = (0, false) := by unfold readN numOk; rw [if_neg]; simp; omega
    rw [hn]
    refine fn_rule Tryz.func171 rfl (by decide +kernel) rfl (fun w0 F0 lent β0 => ?_)
    repeat' (first | refine sC ?_ | ((with_reducible refine isAwp ?_); first | (refine sS ?_; intro Q' hn he hr) | refine sA ?_) | (refine sH ?_; clear hn he hr Q') | refine sO ?_ | ((conv => whnf); first | refine sK ?_ | (refine sB ?_; repeat' (first | refine sb0 ?_ | (refine sb2 ?_ ?_ <;> intro hb <;> try exact cls))) | ((with_reducible refine isCall ?_); first | (refine call_pure (FnC.anyG (ht)) rfl rfl ?_)) | ((with_reducible refine isCallQ ?_); first | (refine callQ_pure (FnC.anyG (ht)) rfl rfl ?_)) | refine sP ?_ | (refine sE ?_; intro x hx) | (refine sF ?_; intro i y hi hy) | (refine sI ?_; intro i hi) | (refine sL ?_; intro hlen) | (refine sQ ?_; intro c hc hcm; try simp only [lnM, lnA, lnC, lnN] at hc) | (refine sX ?_; intro i1 i2 hi1 hi2 hj1 hj2; try simp only [cutL, lnM, lnA, lnC, lnN, lnT, lnD, lnR] at hi1 hi2 hj2) | refine sD ?_ | (refine ret_pick [] rfl rfl rfl ⟨?_, rfl⟩; conv => lhs; whnf) | (refine ret_pick [0] rfl rfl rfl ⟨rfl, ?_⟩) | (refine sH ?_; clear hn he hr Q')))
    all_goals rfl
  cases hok : numOk s with
  | true =>
    obtain ⟨h3, h4⟩ := parse_good hok
    have h5 := numV_le hok
    have hn : readN s = (numV s, true) := by unfold readN; rw [if_pos hok]
    have hd := c_impl_Decimal (numV s) (by omega)
    rw [h4] at hd
    rw [hn]
    refine fn_rule Tryz.func171 rfl (by decide +kernel) rfl (fun w0 F0 lent β0 => ?_)
    repeat' (first | refine sC ?_ | ((with_reducible refine isAwp ?_); first | (refine sS ?_; intro Q' hn he hr) | refine sA ?_) | (refine sH ?_; clear hn he hr Q') | refine sO ?_ | ((conv => whnf); first | refine sK ?_ | (refine sB ?_; repeat' (first | refine sb0 ?_ | (refine sb2 ?_ ?_ <;> intro hb <;> try exact cls))) | ((with_reducible refine isCall ?_); first | (refine call_pure (FnC.anyG (ht)) rfl rfl ?_) | (refine call_pure (c_ParseInt_ok e1 e2 s (numV s) hs h3) rfl rfl ?_) | (refine call_pure (FnC.atE hd e1 e2) rfl rfl ?_)) | ((with_reducible refine isCallQ ?_); first | (refine callQ_pure (FnC.anyG (ht)) rfl rfl ?_) | (refine callQ_pure (c_ParseInt_ok e1 e2 s (numV s) hs h3) rfl rfl ?_) | (refine callQ_pure (FnC.atE hd e1 e2) rfl rfl ?_)) | refine sP ?_ | (refine sE ?_; intro x hx) | (refine sF ?_; intro i y hi hy) | (refine sI ?_; intro i hi) | (refine sL ?_; intro hlen) | (refine sQ ?_; intro c hc hcm; try simp only [lnM, lnA, lnC, lnN] at hc) | (refine sX ?_; intro i1 i2 hi1 hi2 hj1 hj2; try simp only [cutL, lnM, lnA, lnC, lnN, lnT, lnD, lnR] at hi1 hi2 hj2) | refine sD ?_ | (refine ret_pick [] rfl rfl rfl ⟨?_, rfl⟩; conv => lhs; whnf) | (refine ret_pick [0] rfl rfl rfl ⟨rfl, ?_⟩) | (refine sH ?_; clear hn he hr Q')))
    all_goals first | rfl | exact absurd rfl hb
  | false =>
    have hn : readN s = (0, false) := by unfold readN; rw [if_neg (by rw [hok]; simp)]
    rw [hn]
    rcases parse_bad hok (by omega) (by omega) with h3 | ⟨v, h3, h4, h5⟩
    · refine fn_rule Tryz.func171 rfl (by decide +kernel) rfl (fun w0 F0 lent β0 => ?_)
      repeat' (first | refine sC ?_ | ((with_reducible refine isAwp ?_); first | (refine sS ?_; intro Q' hn he hr) | refine sA ?_) | (refine sH ?_; clear hn he hr Q') | refine sO ?_ | ((conv => whnf); first | refine sK ?_ | (refine sB ?_; repeat' (first | refine sb0 ?_ | (refine sb2 ?_ ?_ <;> intro hb <;> try exact cls))) | ((with_reducible refine isCall ?_); first | (refine call_pure (FnC.anyG (ht)) rfl rfl ?_) | (refine call_some (c_ParseInt_bad e1 e2 hif s hs h3) rfl ?_; rintro d ⟨t, p, rfl⟩; refine ⟨rfl, ?_⟩)) | ((with_reducible refine isCallQ ?_); first | (refine callQ_pure (FnC.anyG (ht)) rfl rfl ?_)) | refine sP ?_ | (refine sE ?_; intro x hx) | (refine sF ?_; intro i y hi hy) | (refine sI ?_; intro i hi) | (refine sL ?_; intro hlen) | (refine sQ ?_; intro c hc hcm; try simp only [lnM, lnA, lnC, lnN] at hc) | (refine sX ?_; intro i1 i2 hi1 hi2 hj1 hj2; try simp only [cutL, lnM, lnA, lnC, lnN, lnT, lnD, lnR] at hi1 hi2 hj2) | refine sD ?_ | (refine ret_pick [] rfl rfl rfl ⟨?_, rfl⟩; conv => lhs; whnf) | (refine ret_pick [0] rfl rfl rfl ⟨rfl, ?_⟩) | (refine sH ?_; clear hn he hr Q')))
      all_goals rfl
    · have hd := c_impl_Decimal v (by omega)
      refine fn_rule Tryz.func171 rfl (by decide +kernel) rfl (fun w0 F0 lent β0 => ?_)
      repeat' (first | refine sC ?_ | ((with_reducible refine isAwp ?_); first | (refine sS ?_; intro Q' hn he hr) | refine sA ?_) | (refine sH ?_; clear hn he hr Q') | refine sO ?_ | ((conv => whnf); first | refine sK ?_ | (refine sB ?_; repeat' (first | refine sb0 ?_ | (refine sb2 ?_ ?_ <;> intro hb <;> try exact cls))) | ((with_reducible refine isCall ?_); first | (refine call_pure (FnC.anyG (ht)) rfl rfl ?_) | (refine call_pure (c_ParseInt_ok e1 e2 s v hs h3) rfl rfl ?_) | (refine call_pure (FnC.atE hd e1 e2) rfl rfl ?_)) | ((with_reducible refine isCallQ ?_); first | (refine callQ_pure (FnC.anyG (ht)) rfl rfl ?_) | (refine callQ_pure (c_ParseInt_ok e1 e2 s v hs h3) rfl rfl ?_) | (refine callQ_pure (FnC.atE hd e1 e2) rfl rfl ?_)) | refine sP ?_ | (refine sE ?_; intro x hx) | (refine sF ?_; intro i y hi hy) | (refine sI ?_; intro i hi) | (refine sL ?_; intro hlen) | (refine sQ ?_; intro c hc hcm; try simp only [lnM, lnA, lnC, lnN] at hc) | (refine sX ?_; intro i1 i2 hi1 hi2 hj1 hj2; try simp only [cutL, lnM, lnA, lnC, lnN, lnT, lnD, lnR] at hi1 hi2 hj2) | refine sD ?_ | (refine ret_pick [] rfl rfl rfl ⟨?_, rfl⟩; conv => lhs; whnf) | (refine ret_pick [0] rfl rfl rfl ⟨rfl, ?_⟩) | (refine sH ?_; clear hn he hr Q')))
      all_goals first | rfl | exact absurd hb h5
theorem wrap8' {m : Int} (h : 0 ≤ m ∧ m < 256) : IntKind.u8.wrap m = m := wrap8 h
theorem all_take_succ {l : List UInt8} {k : Nat} {c : UInt8} (h : (l.take k).all isDig = true) (hc : l[k]? = some c) (hd : isDig c = true) : (l.take (k + 1)).all isDig = true := by
  rw [List.take_add_one, hc, List.all_append, h]
  simp [hd]
theorem digV_take_succ {l : List UInt8} {k : Nat} {c : UInt8} (hc : l[k]? = some c) : digV 0 (l.take (k + 1)) = digV 0 (l.take k) * 10 + (c.toNat - 48) := by
  rw [List.take_add_one, hc]
  exact digV_append c _ 0
theorem digV_take_lt {l : List UInt8} {k : Nat} (h : (l.take k).all isDig = true) (hl : l.length ≤ 18) : digV 0 (l.take k) < 1000000000000000000 := by
  have h3 := digV_lt (l.take k) 0 0 h (by decide)
  have h4 : 10 ^ (0 + (l.take k).length) ≤ 10 ^ 18 := Nat.pow_le_pow_right (by decide) (by rw [List.length_take]; omega)
  rw [ten18] at h4
  omega
theorem not_all_dig {l : List UInt8} {k : Nat} {c : UInt8} (hc : l[k]? = some c) (hd : isDig c = false) : l.all isDig = false := by
  cases h : l.all isDig with
  | false => rfl
  | true => rw [List.all_eq_true.1 h c (List.mem_of_getElem? hc)] at hd; cases hd
end Go.Eng
