/-
  The engine, twenty-fourth part. A loop by the list of its temporaries and objects.
  No conditions.
-/
import Derived.Test.YthhmhmbdfahkjaaEng23
namespace Go.Eng
open Go Go.RowKit

/-- A loop: what is listed at its head, the bound, and each round behind named continuations. -/
theorem loop_env {X : Ctx} {b : Code} {Q : DExit → St → Prop} {env0 : List (Nat × D)} {nt : Nat} {objs0 : List Obj} {g : Nat → Option (List D)} {pin : Nat} {γ : Type}
    (E : γ → List (Nat × D)) (O : γ → List Obj) (inv : γ → Prop) (μ : γ → Nat) (g0 : γ) (h0 : inv g0) (hw : Weak ⟨env0, nt, objs0, g, pin⟩ ⟨E g0, nt, O g0, g, pin⟩)
    (round : ∀ k, inv k → ∀ Q' : DExit → St → Prop, (∀ st', (∃ k', inv k' ∧ μ k' < μ k ∧ Weak st' ⟨E k', nt, O k', g, pin⟩) → Q' .normal st') → (∀ i st', Q (.exit i) st' → Q' (.exit i) st') →
      (∀ st', Q .ret st' → Q' .ret st') → awp X b Q' ⟨E k, nt, O k, g, pin⟩) : SemC X (.loop b) Q ⟨env0, nt, objs0, g, pin⟩ :=
  loop_rule (fun k => ⟨E k, nt, O k, g, pin⟩) inv μ g0 h0 hw (fun k hk => round k hk _ (fun _ h => h) (fun _ _ h => h) (fun _ h => h))
/-- A region whose order is drawn. -/
theorem draw_k {P : Program} {w0 : World} {F0 lent : Nat → Prop} {β0 : Nat → Option Value} {ops : Array Oper} {K : St → Prop} {st : St} (hm : P.follows .mixedOrders = true) (hB : drawB ops (effIx ops.toList) = true)
    (h : quietD ⟨P, w0, F0, lent, β0⟩ ops (ops.toList.take (effIx ops.toList)) st fun st => opsD ⟨P, w0, F0, lent, β0⟩ ops (ops.toList.drop (effIx ops.toList)) st K) : DrawS ⟨P, w0, F0, lent, β0⟩ ops K st :=
  draw_rule (X := ⟨P, w0, F0, lent, β0⟩) _ hm hB h
theorem draw_kb {P : Program} {w0 : World} {F0 lent : Nat → Prop} {β0 : Nat → Option Value} {ops : Array Oper} {K : St → Prop} {st : St} (hm : P.follows .mixedOrders = true) (hB : drawB ops (effIxB ops.toList) = true)
    (h : quietD ⟨P, w0, F0, lent, β0⟩ ops (ops.toList.take (effIxB ops.toList)) st fun st => opsD ⟨P, w0, F0, lent, β0⟩ ops (ops.toList.drop (effIxB ops.toList)) st K) : DrawS ⟨P, w0, F0, lent, β0⟩ ops K st :=
  draw_rule (X := ⟨P, w0, F0, lent, β0⟩) _ hm hB h
theorem LenS.map {α : Type} {enc : α → List D} {l : List α} {K : Int → Prop} (h : (l.length : Int) ≤ 9223372036854775807 → K l.length) : LenS (l.map enc).length K := by
  rw [List.length_map]
  exact LenS.int h
theorem MakeS.nat {n bytes : Nat} {K : Nat → Prop} (hb : Nat.ble bytes 65536 = true) (h : (n : Int) ≤ 4294967296) (hk : K n) : MakeS n n bytes K := by
  have hb : bytes ≤ 65536 := by simpa using hb
  have h2 : bytes * n ≤ 65536 * 4294967296 := Nat.mul_le_mul hb (by omega)
  refine MakeS.mk ⟨by omega, by omega, ?_, by omega, by simpa using hk⟩
  have h3 : ((bytes * n : Nat) : Int) ≤ 281474976710656 := by omega
  rwa [Int.natCast_mul] at h3

/-- A row that is filled from the front: its first k elements are those of a, the others are z. -/
def fill {α : Type} (enc : α → List D) (z : List D) (a : List α) (k : Nat) : List (List D) := (a.take k).map enc ++ List.replicate (a.length - k) z
theorem fill_zero {α : Type} (enc : α → List D) (z : List D) (a : List α) : fill enc z a 0 = List.replicate a.length z := by simp [fill]
theorem fill_all {α : Type} (enc : α → List D) (z : List D) (a : List α) : fill enc z a a.length = a.map enc := by simp [fill]
theorem fill_length {α : Type} (enc : α → List D) (z : List D) (a : List α) {k : Nat} (h : k ≤ a.length) : (fill enc z a k).length = a.length := by
  simp [fill]
  omega
theorem fill_set {α : Type} (enc : α → List D) (z : List D) (a : List α) {k : Nat} {x : α} (h : a[k]? = some x) : (fill enc z a k).set k (enc x) = fill enc z a (k + 1) := by
  have hk : k < a.length := by
    have h3 : k < a.length ∨ a.length ≤ k := by omega
    rcases h3 with h3 | h3
    · exact h3
    · rw [List.getElem?_eq_none h3] at h; cases h
  have hm : ((a.take k).map enc).length = k := by simp; omega
  unfold fill
  rw [List.set_append, if_neg (by omega), hm, Nat.sub_self, show a.length - k = (a.length - (k + 1)) + 1 from by omega, List.replicate_succ, List.set_cons_zero, List.take_add_one, h]
  simp
theorem InS.fill {α : Type} {enc : α → List D} {z : List D} {a : List α} {k : Nat} {K : Nat → Prop} (h : k < a.length) (hk : K k) : InS (k : Int) (fill enc z a k).length K :=
  InS.nat (by rw [fill_length _ _ _ (by omega)]; exact h) hk
theorem fill_get {α : Type} (enc : α → List D) (z : List D) (a : List α) {k : Nat} (h : k < a.length) : (fill enc z a k).getD k [] = z := by
  have hm : ((a.take k).map enc).length = k := by simp; omega
  unfold fill
  rw [List.getD_eq_getElem?_getD, List.getElem?_append_right (by omega), hm, Nat.sub_self, show a.length - k = (a.length - (k + 1)) + 1 from by omega, List.replicate_succ]
  rfl
theorem ElemS.fill {α : Type} {enc : α → List D} {z : List D} {a : List α} {k : Nat} {K : List D → Prop} (h : k < a.length) (hk : K z) : ElemS (fill enc z a k) (k : Int) K := by
  refine ElemS.mk ⟨by omega, by rw [fill_length _ _ _ (by omega)]; omega, fun e he => ?_⟩
  have h2 := fill_get enc z a h
  rw [show ((k : Int)).toNat = k from by omega] at he
  rw [List.getD_eq_getElem?_getD, he] at h2
  simp only [Option.getD_some] at h2
  rwa [h2]
end Go.Eng
