/-
  Small functions of the law on answers: whether a number is in a list, notes that are equal.
  No conditions.
-/
import Derived.Test.YtbpbhjlochijdaaGreatDoorED
import Derived.Test.YtbpbhjlochijdaaGreatDoorNX
set_option linter.unusedVariables false
set_option linter.unusedSimpArgs false
set_option maxHeartbeats 4000000
namespace Go.Eng
open Go Go.RowKit Go.Proofs
set_option maxRecDepth 100000
theorem c_b10Long (code : List UInt8) : FnC Tryz.prog 5 G0 0 [] [.sl 1 (code.map byteE)] (fun d os => (∃ b, d = .bool b) ∧ os = []) := by
  refine fn_rule Tryz.func5 rfl (by decide +kernel) rfl (fun w0 F0 lent β0 => ?_)
  repeat' (first | refine sC ?_ | ((with_reducible refine isAwp ?_); first | (refine sS ?_; intro Q' hn he hr) | refine sA ?_) | (refine sH ?_; clear hn he hr Q') | refine sO ?_ | ((conv => whnf); first | refine sK ?_ | (refine sB ?_; repeat' (first | refine sb0 ?_ | (refine sb2 ?_ ?_ <;> intro hb <;> try exact cls))) | ((with_reducible refine isRet ?_); first | (refine ret_pick [] rfl rfl rfl ⟨⟨_, rfl⟩, rfl⟩)) | refine sP ?_ | (refine sE ?_; intro x hx) | (refine sF ?_; intro i y hi hy) | (refine sI ?_; intro i hi) | (refine sL ?_; intro hlen) | (refine sQ ?_; intro c hc hcm; try simp only [lnM, lnA, lnC, lnN] at hc) | (refine sX ?_; intro i1 i2 hi1 hi2 hj1 hj2; try simp only [cutL, lnM, lnA, lnC, lnN, lnT, lnD, lnR] at hi1 hi2 hj2) | refine sD ?_ | (refine ret_pick [] rfl rfl rfl ⟨?_, rfl⟩; conv => lhs; whnf) | (refine ret_pick [0] rfl rfl rfl ⟨rfl, ?_⟩) | (refine sH ?_; clear hn he hr Q')))
theorem c_b10Has (l : List Int) (x0 : Int) : FnC Tryz.prog 10 G0 0 [] [.sl 1 (l.map encI), .int .i64 x0] (fun d os => d = .bool (l.contains x0) ∧ os = []) := by
  refine fn_rule Tryz.func10 rfl (by decide +kernel) rfl (fun w0 F0 lent β0 => ?_)
  repeat' (first | refine sC ?_ | ((with_reducible refine isAwp ?_); first | (refine sS ?_; intro Q' hn he hr) | refine sA ?_) | (refine sH ?_; clear hn he hr Q') | refine sO ?_ | ((conv => whnf); first | refine sK ?_ | (refine sB ?_; repeat' (first | refine sb0 ?_ | (refine sb2 ?_ ?_ <;> intro hb <;> try exact cls))) | refine sP ?_ | (refine sE ?_; intro x hx) | (refine sF ?_; intro i y hi hy) | (refine sI ?_; intro i hi) | (refine sL ?_; intro hlen) | (refine sQ ?_; intro c hc hcm; try simp only [lnM, lnA, lnC, lnN] at hc) | (refine sX ?_; intro i1 i2 hi1 hi2 hj1 hj2; try simp only [cutL, lnM, lnA, lnC, lnN, lnT, lnD, lnR] at hi1 hi2 hj2) | refine sD ?_ | (refine ret_pick [] rfl rfl rfl ⟨?_, rfl⟩; conv => lhs; whnf) | (refine ret_pick [0] rfl rfl rfl ⟨rfl, ?_⟩) | (refine sH ?_; clear hn he hr Q')))
  refine loop_env (fun k : Nat => [(0,.sl 1 (l.map encI)),(1,.int .i64 x0),(5,.int .i64 k)]) (fun _ => []) (fun k => k ≤ l.length ∧ noneTo (fun y : Int => y == x0) l k) (fun k => l.length - k) 0 ⟨by omega, noneTo_zero⟩ (by refine weak_to rfl rfl rfl ?_; ((repeat' (first | exact trivial | refine And.intro ?_ ?_)) <;> (first | rfl | (conv => rhs; whnf) <;> (first | rfl | (refine congrArg (D.int _) ?_; omega))))) (fun k hk Q' hn he hr => ?_)
  repeat' (first | refine sC ?_ | ((with_reducible refine isAwp ?_); first | (refine sS ?_; intro Q' hn he hr) | refine sA ?_) | (refine sH ?_; clear hn he hr Q') | refine sO ?_ | ((conv => whnf); first | refine sK ?_ | (refine sB ?_; repeat' (first | refine sb0 ?_ | (refine sb2 ?_ ?_ <;> intro hb <;> try exact cls))) | refine sP ?_ | (refine sE ?_; intro x hx) | (refine sF ?_; intro i y hi hy) | (refine sI ?_; intro i hi) | (refine sL ?_; intro hlen) | (refine sQ ?_; intro c hc hcm; try simp only [lnM, lnA, lnC, lnN] at hc) | (refine sX ?_; intro i1 i2 hi1 hi2 hj1 hj2; try simp only [cutL, lnM, lnA, lnC, lnN, lnT, lnD, lnR] at hi1 hi2 hj2) | refine sD ?_ | (refine ret_pick [] rfl rfl rfl ⟨?_, rfl⟩; conv => lhs; whnf) | (refine ret_pick [0] rfl rfl rfl ⟨rfl, ?_⟩) | (refine sH ?_; clear hn he hr Q')))
  · have h9 : l.contains x0 = true := by
      rw [List.contains_iff_mem]
      have := List.mem_of_getElem? hx
      rwa [hb] at this
    rw [h9]
  · exact ⟨k + 1, ⟨by omega, noneTo_succ hk.2 hx (by simpa using hb)⟩, by omega, (by refine weak_to rfl rfl rfl ?_; ((repeat' (first | exact trivial | refine And.intro ?_ ?_)) <;> (first | rfl | (conv => rhs; whnf) <;> (first | rfl | (refine congrArg (D.int _) ?_; omega)))))⟩
  · have h9 : l.contains x0 = false := by
      rw [Bool.eq_false_iff]
      intro hc
      rw [List.contains_iff_mem] at hc
      obtain ⟨j, hj⟩ := List.getElem?_of_mem hc
      have := hk.2 j x0 (by have := (List.getElem?_eq_some_iff.1 hj).1; omega) hj
      simp at this
    rw [h9]
theorem c_b10HasT (l : List Int) (m : Nat) (x0 : Int) : FnC Tryz.prog 10 G0 0 [] [.sl 1 ((l.map encI).take m), .int .i64 x0] (fun d os => d = .bool ((l.take m).contains x0) ∧ os = []) := by
  rw [← List.map_take]
  exact c_b10Has _ _
theorem view_hs {env : List (Nat × D)} {nt : Nat} {objs : List Obj} {g : Nat → Option (List D)} {pin : Nat} {o s b : Nat} {T : TypeId} {es : List (List D)} (ho : objs.getD o .dead = .row T s es) (hb : b ≤ es.length) : view ⟨env, nt, objs, g, pin⟩ (.hs o s 0 b) = .sl s (es.take b) := by
  have h1 : (St.mk env nt objs g pin).obj o = .row T s es := ho
  show viewC ⟨env, nt, objs, g, pin⟩ (.hs o s 0 b) = _
  unfold viewC
  simp only [h1]
  have h2 : (Nat.beq s s && Nat.ble b es.length) = true := by simp [hb]
  rw [h2]
  simp
/-- A call that is shown the first elements of an own row and a number. -/
theorem call_look_hs {X : Ctx} {env : List (Nat × D)} {nt : Nat} {objs : List Obj} {g : Nat → Option (List D)} {pin : Nat} {f : FuncId} {K : D → St → Prop} {d : D} {o s b : Nat} {T : TypeId} {es : List (List D)} {k : IntKind} {z : Int}
    (ho : objs.getD o .dead = .row T s es) (hb : b ≤ es.length) (hc : FnC X.P f g 0 [] [.sl s (es.take b), .int k z] (fun d' os => d' = d ∧ os = [])) (hd : bare d = true) (hk : K d ⟨env, nt, objs, g, pin⟩) :
    CallS X f [.hs o s 0 b, .int k z] ⟨env, nt, objs, g, pin⟩ K := by
  refine call_look ?_ hd hk
  show FnC X.P f g 0 [] [view ⟨env, nt, objs, g, pin⟩ (.hs o s 0 b), .int k z] _
  rw [view_hs ho hb]
  exact hc
theorem callQ_look_hs {X : Ctx} {env : List (Nat × D)} {nt : Nat} {objs : List Obj} {g : Nat → Option (List D)} {pin : Nat} {f : FuncId} {K : D → Prop} {d : D} {o s b : Nat} {T : TypeId} {es : List (List D)} {k : IntKind} {z : Int}
    (ho : objs.getD o .dead = .row T s es) (hb : b ≤ es.length) (hc : FnC X.P f g 0 [] [.sl s (es.take b), .int k z] (fun d' os => d' = d ∧ os = [])) (hd : bare d = true) (hk : K d) :
    CallQ X f [.hs o s 0 b, .int k z] ⟨env, nt, objs, g, pin⟩ K := by
  refine callQ_look ?_ hd hk
  show FnC X.P f g 0 [] [view ⟨env, nt, objs, g, pin⟩ (.hs o s 0 b), .int k z] _
  rw [view_hs ho hb]
  exact hc
theorem eqd_Note (a b : TNote) : EqD Tryz.prog 39 (encNote a) (encNote b) (eqTNote a b) := by
  have h : EqD Tryz.prog 39 (encNote a) (encNote b) ((a.fId == b.fId) && ((a.fText == b.fText) && true)) := EqD.flat _ rfl (by decide +kernel) (by decide +kernel) (by rfl)
  simpa [eqTNote, eqI, eqStr, eqBo] using h
theorem c_slicesEqual_Note (a b : List (TNote)) : FnC Tryz.prog 61 G0 0 [] [.sl 2 (a.map encNote), .sl 2 (b.map encNote)] (fun d os => d = .bool (eqL eqTNote a b) ∧ os = []) := by
  refine fn_rule Tryz.func61 rfl (by decide +kernel) rfl (fun w0 F0 lent β0 => ?_)
  repeat' (first | refine sC ?_ | ((with_reducible refine isAwp ?_); first | (refine sS ?_; intro Q' hn he hr) | refine sA ?_) | (refine sH ?_; clear hn he hr Q') | refine sO ?_ | ((conv => whnf); first | refine sK ?_ | (refine sB ?_; repeat' (first | refine sb0 ?_ | (refine sb2 ?_ ?_ <;> intro hb <;> try exact cls))) | refine sP ?_ | (refine sE ?_; intro x hx) | (refine sF ?_; intro i y hi hy) | (refine sI ?_; intro i hi) | (refine sL ?_; intro hlen) | (refine sQ ?_; intro c hc hcm; try simp only [lnM, lnA, lnC, lnN] at hc) | (refine sX ?_; intro i1 i2 hi1 hi2 hj1 hj2; try simp only [cutL, lnM, lnA, lnC, lnN, lnT, lnD, lnR] at hi1 hi2 hj2) | refine sD ?_ | (refine ret_pick [] rfl rfl rfl ⟨?_, rfl⟩; conv => lhs; whnf) | (refine ret_pick [0] rfl rfl rfl ⟨rfl, ?_⟩) | (refine sH ?_; clear hn he hr Q')))
  · rw [eqL_len hb]
  · refine loop_env (fun k : Nat => [(0,.sl 2 (a.map encNote)),(1,.sl 2 (b.map encNote)),(12,.int .i64 a.length),(13,.int .i64 k)]) (fun _ => []) (fun k => k ≤ a.length ∧ eqTo eqTNote a b k) (fun k => a.length - k) 0 ⟨by omega, eqTo_zero⟩ (by refine weak_to rfl rfl rfl ?_; ((repeat' (first | exact trivial | refine And.intro ?_ ?_)) <;> (first | rfl | (conv => rhs; whnf) <;> (first | rfl | (refine congrArg (D.int _) ?_; omega))))) (fun k hk Q' hn he hr => ?_)
    repeat' (first | refine sC ?_ | ((with_reducible refine isAwp ?_); first | (refine sS ?_; intro Q' hn he hr) | refine sA ?_) | (refine sH ?_; clear hn he hr Q') | refine sO ?_ | ((conv => whnf); first | refine sK ?_ | (refine sB ?_; repeat' (first | refine sb0 ?_ | (refine sb2 ?_ ?_ <;> intro hb <;> try exact cls))) | (refine EqS.mk (eqd_Note _ _) ?_) | refine sP ?_ | (refine sE ?_; intro x hx) | (refine sF ?_; intro i y hi hy) | (refine sI ?_; intro i hi) | (refine sL ?_; intro hlen) | (refine sQ ?_; intro c hc hcm; try simp only [lnM, lnA, lnC, lnN] at hc) | (refine sX ?_; intro i1 i2 hi1 hi2 hj1 hj2; try simp only [cutL, lnM, lnA, lnC, lnN, lnT, lnD, lnR] at hi1 hi2 hj2) | refine sD ?_ | (refine ret_pick [] rfl rfl rfl ⟨?_, rfl⟩; conv => lhs; whnf) | (refine ret_pick [0] rfl rfl rfl ⟨rfl, ?_⟩) | (refine sH ?_; clear hn he hr Q')))
    · rw [eqL_at ‹a[k]? = some _› ‹b[k]? = some _› hb]
    · exact ⟨k + 1, ⟨by omega, eqTo_succ hk.2 ‹a[k]? = some _› ‹b[k]? = some _› hb⟩, by omega, (by refine weak_to rfl rfl rfl ?_; ((repeat' (first | exact trivial | refine And.intro ?_ ?_)) <;> (first | rfl | (conv => rhs; whnf) <;> (first | rfl | (refine congrArg (D.int _) ?_; omega)))))⟩
    · rw [eqL_all (by omega) (fun j x y h => hk.2 j x y (by omega))]
theorem c_impl_SameNotes (a b : List TNote) : FnC Tryz.prog 20 G0 0 [] [.sl 2 (a.map encNote), .sl 2 (b.map encNote)] (fun d os => d = .bool (eqL eqTNote a b) ∧ os = []) := by
  refine fn_rule Tryz.func20 rfl (by decide +kernel) rfl (fun w0 F0 lent β0 => ?_)
  repeat' (first | refine sC ?_ | ((with_reducible refine isAwp ?_); first | (refine sS ?_; intro Q' hn he hr) | refine sA ?_) | (refine sH ?_; clear hn he hr Q') | refine sO ?_ | ((conv => whnf); first | refine sK ?_ | (refine sB ?_; repeat' (first | refine sb0 ?_ | (refine sb2 ?_ ?_ <;> intro hb <;> try exact cls))) | ((with_reducible refine isCall ?_); first | (refine call_pure (c_slicesEqual_Note _ _) rfl rfl ?_)) | refine sP ?_ | (refine sE ?_; intro x hx) | (refine sF ?_; intro i y hi hy) | (refine sI ?_; intro i hi) | (refine sL ?_; intro hlen) | (refine sQ ?_; intro c hc hcm; try simp only [lnM, lnA, lnC, lnN] at hc) | (refine sX ?_; intro i1 i2 hi1 hi2 hj1 hj2; try simp only [cutL, lnM, lnA, lnC, lnN, lnT, lnD, lnR] at hi1 hi2 hj2) | refine sD ?_ | (refine ret_pick [] rfl rfl rfl ⟨?_, rfl⟩; conv => lhs; whnf) | (refine ret_pick [0] rfl rfl rfl ⟨rfl, ?_⟩) | (refine sH ?_; clear hn he hr Q')))
theorem c_impl_SameNotes_eq (a : List TNote) : FnC Tryz.prog 20 G0 0 [] [.sl 2 (a.map encNote), .sl 2 (a.map encNote)] (fun d os => d = .bool true ∧ os = []) := by
  have h := c_impl_SameNotes a a
  rw [eqL_refl eqTNote_refl] at h
  exact h
end Go.Eng
