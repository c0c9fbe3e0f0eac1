/-
  The engine, bundle ED: values as data, objects, states, the walk's rules, and that the model follows them.
  No conditions.
-/
import Derived.Test.YthhmhmbdfahkjaaEC
namespace Go.Eng
open Go Go.RowKit
theorem draw_tree {P : Program} {w0 : World} {F0 lent : Nat → Prop} {β0 : Nat → Option Value} {ops : Array Oper} {K : St → Prop} {st : St} (order : OT) (hm : P.follows .mixedOrders = true) (hs : ops.toList.all (fun o => notSelect o.op) = true) (hB : treeB ops order ops.size (Array.replicate ops.size false) [] = true)
    (h : opsT ⟨P, w0, F0, lent, β0⟩ ops order st K) : DrawS ⟨P, w0, F0, lent, β0⟩ ops K st := draw_t order hm hs hB h
end Go.Eng

namespace Go.Eng
open Go Go.RowKit

/-- Both ways come to the same. -/
@[irreducible] def JoinS (s s' : St) : Prop := Weak s s'
theorem JoinS.mk {s s' : St} (h : Weak s s') : JoinS s s' := by unfold JoinS; exact h
theorem JoinS.out {s s' : St} (h : JoinS s s') : Weak s s' := by unfold JoinS at h; exact h
theorem JoinS.swap {i j : Nat} {d e : D} {env : List (Nat × D)} {nt : Nat} {objs : List Obj} {g : Nat → Option (List D)} {pin : Nat} (h : Nat.beq i j = false) : JoinS ⟨(i, d) :: (j, e) :: env, nt, objs, g, pin⟩ ⟨(j, e) :: (i, d) :: env, nt, objs, g, pin⟩ := by
  refine JoinS.mk ?_
  intro X β a w hr
  refine ⟨β, hr.less rfl rfl rfl rfl fun t => .inr ?_⟩
  have hne : i ≠ j := fun he => by rw [he, Nat.beq_refl] at h; cases h
  show look ((j, e) :: (i, d) :: env) t = look ((i, d) :: (j, e) :: env) t
  by_cases h1 : t = i
  · subst h1
    rw [look_ne _ _ hne, look_same, look_same]
  · by_cases h2 : t = j
    · subst h2
      rw [look_same, look_ne _ _ h1, look_same]
    · rw [look_ne _ _ h2, look_ne _ _ h1, look_ne _ _ h1, look_ne _ _ h2]
/-- One after the other; two that may change places. -/
inductive OU where
  | nil
  | cons (i : Nat) (t : OU)
  | swap (i j : Nat) (t : OU)
def OU.line : List Nat → OU
  | [] => .nil
  | i :: r => .cons i (OU.line r)
def swapB (ops : Array Oper) : OU → Nat → Array Bool → Bool
  | .nil, _, listed => (Region.ready .any ops listed).isEmpty
  | .cons i t, fuel + 1, listed => (match ops[i]? with
      | some oi => (Region.ready .any ops listed).contains i && ((Region.ready .any ops listed).all (Nat.beq i) || (freeKind oi.op && apartB ops listed i oi))
      | none => false) && swapB ops t fuel (listed.setIfInBounds i true)
  | .swap i j t, fuel + 2, listed => (match ops[i]?, ops[j]? with
      | some _, some _ => (Region.ready .any ops listed).contains i && (Region.ready .any ops listed).all (fun k => Nat.beq i k || Nat.beq j k) && ((Region.ready .any ops (listed.setIfInBounds i true)).contains j && (Region.ready .any ops (listed.setIfInBounds i true)).all (Nat.beq j)) &&
          ((Region.ready .any ops (listed.setIfInBounds j true)).contains i && (Region.ready .any ops (listed.setIfInBounds j true)).all (Nat.beq i)) && ((listed.setIfInBounds i true).setIfInBounds j true == (listed.setIfInBounds j true).setIfInBounds i true)
      | _, _ => false) && swapB ops t fuel ((listed.setIfInBounds i true).setIfInBounds j true)
  | _, _, _ => false
noncomputable def opsU (X : Ctx) (ops : Array Oper) (l : OU) : St → (St → Prop) → Prop :=
  @OU.rec (fun _ => St → (St → Prop) → Prop) (fun st K => K st)
    (fun i _ ih st K => match ops[i]? with
      | some o => guardD X ops o st fun st' => ih st' K
      | none => False)
    (fun i j _ ih st K => match ops[i]?, ops[j]? with
      | some o, some p => guardD X ops o st fun s1 => guardD X ops p s1 fun s2 => (guardD X ops p st fun r1 => guardD X ops o r1 fun r2 => JoinS r2 s2) ∧ ih s2 K
      | _, _ => False) l

section
variable {X : Ctx} {K : St → Prop} {ops : Array Oper}
theorem guard_exists {o : Oper} {st : St} {K' : St → Prop} {β : Nat → Option Value} {a : Act} {w : World} (h : guardD X ops o st K') (hr : Rel X st β a w) : ∃ a' w', PostR X K' a' w' := by
  unfold guardD at h
  split at h
  · obtain ⟨a', w', h⟩ := wp_exists (opD_sound (Q := fun _ _ _ => False) h hr)
    exact ⟨a', w', h⟩
  · rename_i j want hg
    split at h
    · rename_i t hj
      split at h
      · rename_i c ht
        by_cases hc : c = want
        · subst hc
          obtain ⟨a', w', h⟩ := wp_exists (opD_sound (Q := fun _ _ _ => False) (putK_out (h.1 rfl)) (hr.self ht))
          exact ⟨a', w', h⟩
        · have hc' : c = !want := by cases c <;> cases want <;> simp_all
          exact ⟨_, w, _, β, putK_out (putK_out (h.2 hc')), (hr.self (by rw [ht, hc'])).put _ rep_undef⟩
      · exact ⟨_, w, _, β, putK_out h, hr.put _ rep_undef⟩
      · exact h.elim
    · exact h.elim

theorem swap_sound (hsel : ∀ (j : Nat) (o : Oper) cs b, ops[j]? = some o → o.op ≠ .select cs b) : ∀ (t : OU) (fuel : Nat) (listed : Array Bool) (st : St) (β : Nat → Option Value) (a : Act) (w : World),
    swapB ops t fuel listed = true → opsU X ops t st K → Rel X st β a w → wpAny X.P .any ops (EndQ X K) fuel listed a w
  | .nil, fuel, listed, st, β, a, w, hB, h, hr => by
    have hB : (Region.ready .any ops listed).isEmpty = true := by cases fuel <;> exact hB
    have he : Region.ready .any ops listed = [] := List.isEmpty_iff.1 hB
    have hq : EndQ X K .normal a w := ⟨st, β, h, hr⟩
    cases fuel with
    | zero => exact ⟨he, hq⟩
    | succ fuel => exact ⟨fun _ => hq, fun i hi => by rw [he] at hi; cases hi⟩
  | .cons i t, 0, listed, st, β, a, w, hB, h, hr => by cases hB
  | .swap i j t, 0, listed, st, β, a, w, hB, h, hr => by cases hB
  | .swap i j t, 1, listed, st, β, a, w, hB, h, hr => by cases hB
  | .cons i t, fuel + 1, listed, st, β, a, w, hB, h, hr => by
    simp only [swapB, Bool.and_eq_true] at hB
    obtain ⟨hB, hB2⟩ := hB
    have h : (match ops[i]? with
      | some o => guardD X ops o st fun st' => opsU X ops t st' K
      | none => False) := h
    split at hB
    · rename_i oi hi
      simp only [hi] at h
      simp only [Bool.and_eq_true, List.contains_eq_mem, decide_eq_true_eq] at hB
      obtain ⟨hrd, hB⟩ := hB
      have next : ∀ a' w', PostR X (fun st' => opsU X ops t st' K) a' w' → wpAny X.P .any ops (EndQ X K) fuel (listed.setIfInBounds i true) a' w' := by
        rintro a' w' ⟨st', β', hk, hr'⟩
        exact swap_sound hsel t fuel _ st' β' a' w' hB2 hk hr'
      obtain ⟨h1, h2⟩ := guard_step (Q := EndQ X K) hi h hr
      rcases Bool.or_eq_true _ _ ▸ hB with hall | hfree
      · refine ⟨fun he => (by rw [he] at hrd; cases hrd), fun j hj => ?_⟩
        have := Nat.eq_of_beq_eq_true (List.all_eq_true.1 hall j hj)
        subst this
        exact wpOp_mono next h1
      · simp only [Bool.and_eq_true] at hfree
        obtain ⟨v, hy, hp⟩ := h2 hfree.1
        refine wpAny_first hi hsel (fun c a w h => h) fuel listed a w (fun j oj hj hne hun hnw => ?_) hrd hy (next _ _ hp)
        have hlt : j < ops.size := (Array.getElem?_eq_some_iff.1 hj).1
        have hb := List.all_eq_true.1 hfree.2 j (List.mem_range.2 hlt)
        simp only [hj, Bool.or_eq_true, hun, Bool.false_eq_true, or_false] at hb
        rcases hb with (hb | hb) | hb
        · exact absurd (Nat.eq_of_beq_eq_true hb) hne
        · exfalso
          rw [show (oj.after.all fun e => !Region.binds .any e || !Nat.beq e.on i) = true from Array.all_eq_true_iff_forall_mem.2 fun e he => by
            cases hbb : Region.binds .any e with
            | false => rfl
            | true => simp [beq_ne (hnw e he hbb)]] at hb
          cases hb
        · exact hb
    · cases hB
  | .swap i j t, fuel + 2, listed, st, β, a, w, hB, h, hr => by
    simp only [swapB, Bool.and_eq_true] at hB
    obtain ⟨hB, hB2⟩ := hB
    have h : (match ops[i]?, ops[j]? with
      | some o, some p => guardD X ops o st fun s1 => guardD X ops p s1 fun s2 => (guardD X ops p st fun r1 => guardD X ops o r1 fun r2 => JoinS r2 s2) ∧ opsU X ops t s2 K
      | _, _ => False) := h
    split at hB
    · rename_i oi oj hi hj
      simp only [hi, hj] at h
      simp only [Bool.and_eq_true, List.contains_eq_mem, decide_eq_true_eq, beq_iff_eq] at hB
      obtain ⟨⟨⟨⟨hrd, hall⟩, hri, halli⟩, hrj, hallj⟩, hset⟩ := hB
      have next : ∀ a' w', PostR X (fun st' => opsU X ops t st' K) a' w' → wpAny X.P .any ops (EndQ X K) fuel ((listed.setIfInBounds i true).setIfInBounds j true) a' w' := by
        rintro a' w' ⟨st', β', hk, hr'⟩
        exact swap_sound hsel t fuel _ st' β' a' w' hB2 hk hr'
      refine ⟨fun he => (by rw [he] at hrd; cases hrd), fun k hk => ?_⟩
      have hc := List.all_eq_true.1 hall k hk
      simp only [Bool.or_eq_true] at hc
      rcases hc with hc | hc
      · have := Nat.eq_of_beq_eq_true hc
        subst this
        refine wpOp_mono ?_ (guard_step (Q := EndQ X K) hi h hr).1
        rintro a1 w1 ⟨s1, β1, h1, hr1⟩
        refine ⟨fun he => (by rw [he] at hri; cases hri), fun k hk => ?_⟩
        have := Nat.eq_of_beq_eq_true (List.all_eq_true.1 halli k hk)
        subst this
        refine wpOp_mono ?_ (guard_step (Q := EndQ X K) hj h1 hr1).1
        rintro a2 w2 ⟨s2, β2, h2, hr2⟩
        exact next _ _ ⟨s2, β2, h2.2, hr2⟩
      · have := Nat.eq_of_beq_eq_true hc
        subst this
        obtain ⟨a1, w1, s1, β1, h1, hr1⟩ := guard_exists h hr
        obtain ⟨a2, w2, s2, β2, h2, hr2⟩ := guard_exists h1 hr1
        refine wpOp_mono ?_ (guard_step (Q := EndQ X K) hj h2.1 hr).1
        rintro b1 v1 ⟨r1, γ1, g1, rr1⟩
        refine ⟨fun he => (by rw [he] at hrj; cases hrj), fun k hk => ?_⟩
        have := Nat.eq_of_beq_eq_true (List.all_eq_true.1 hallj k hk)
        subst this
        refine wpOp_mono ?_ (guard_step (Q := EndQ X K) hi g1 rr1).1
        rintro b2 v2 ⟨r2, γ2, g2, rr2⟩
        obtain ⟨γ3, rr3⟩ := g2.out X γ2 b2 v2 rr2
        rw [← hset]
        exact next _ _ ⟨s2, γ3, h2.2, rr3⟩
    · cases hB
end
theorem draw_swap {P : Program} {w0 : World} {F0 lent : Nat → Prop} {β0 : Nat → Option Value} {ops : Array Oper} {K : St → Prop} {st : St} (order : OU) (hm : P.follows .mixedOrders = true) (hs : ops.toList.all (fun o => notSelect o.op) = true) (hB : swapB ops order ops.size (Array.replicate ops.size false) = true)
    (h : opsU ⟨P, w0, F0, lent, β0⟩ ops order st K) : DrawS ⟨P, w0, F0, lent, β0⟩ ops K st := by
  refine DrawS.mk fun β a w id Q hr hQ => ?_
  have hsel : ∀ (j : Nat) (o : Oper) cs b, ops[j]? = some o → o.op ≠ .select cs b := by
    intro j o cs b hj e
    have hm : o ∈ ops.toList := by
      have := Array.mem_of_getElem? hj
      simpa using this
    have := List.all_eq_true.1 hs o hm
    rw [e] at this
    cases this
  have h1 := wp_region_any (id := id) hm (swap_sound (X := ⟨P, w0, F0, lent, β0⟩) (K := K) hsel order ops.size _ st β a _ hB h hr.drew)
  refine Code.wp_mono (fun e a' w' hq => ?_) h1
  cases e <;> first | exact hQ a' w' hq | exact hq.elim
end Go.Eng
