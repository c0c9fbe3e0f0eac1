/-
  The engine, twenty-first part. Code as data: sequences, branches, blocks, loops; a function from its body.
  No conditions.
-/
import Derived.Test.YthhmhmbdfahkjaaEng20
import Derived.Scope
namespace Go.Eng
open Go Go.RowKit

inductive DExit where
  | normal
  | exit (id : Nat)
  | ret

/-- What a code must come to, in the model's words. -/
def QC (X : Ctx) (Q : DExit → St → Prop) : Exit → Act → World → Prop
  | .normal, a, w => PostR X (Q .normal) a w
  | .exit i, a, w => PostR X (Q (.exit i)) a w
  | .ret, a, w => PostR X (Q .ret) a w
  | _, _, _ => False

/-- The code, run from a machine state of st, comes to Q. -/
@[irreducible] def SemC (X : Ctx) (c : Code) (Q : DExit → St → Prop) (st : St) : Prop := ∀ β a w, Rel X st β a w → c.wp X.P (QC X Q) a w
theorem SemC.mk {X : Ctx} {c : Code} {Q : DExit → St → Prop} {st : St} (h : ∀ β a w, Rel X st β a w → c.wp X.P (QC X Q) a w) : SemC X c Q st := by unfold SemC; exact h
theorem SemC.out {X : Ctx} {c : Code} {Q : DExit → St → Prop} {st : St} (h : SemC X c Q st) : ∀ β a w, Rel X st β a w → c.wp X.P (QC X Q) a w := by unfold SemC at h; exact h

/-- A statement whose order is open. -/
@[irreducible] def DrawS (X : Ctx) (ops : Array Oper) (K : St → Prop) (st : St) : Prop :=
  ∀ β a w (id : Nat) (Q : Exit → Act → World → Prop), Rel X st β a w → (∀ a w, PostR X K a w → Q .normal a w) → (Code.region id ops true).wp X.P Q a w
theorem DrawS.mk {X : Ctx} {ops : Array Oper} {K : St → Prop} {st : St} (h : ∀ β a w (id : Nat) (Q : Exit → Act → World → Prop), Rel X st β a w → (∀ a w, PostR X K a w → Q .normal a w) → (Code.region id ops true).wp X.P Q a w) : DrawS X ops K st := by unfold DrawS; exact h
theorem DrawS.out {X : Ctx} {ops : Array Oper} {K : St → Prop} {st : St} (h : DrawS X ops K st) : ∀ β a w (id : Nat) (Q : Exit → Act → World → Prop), Rel X st β a w → (∀ a w, PostR X K a w → Q .normal a w) → (Code.region id ops true).wp X.P Q a w := by unfold DrawS at h; exact h

def quietKind (o : Oper) : Bool :=
  isPure o.op || match o.op with
    | .call c => match c.callee with
      | .value _ => true
      | _ => false
    | _ => false
/-- How many operations stand ahead of the first that makes or writes memory of the call's own. -/
def effIx : List Oper → Nat
  | [] => 0
  | o :: r => bif quietKind o then effIx r + 1 else 0

/-- The same, slice literals that are only read among them. -/
def quietKindB (o : Oper) : Bool :=
  quietKind o || match o.op with
    | .buildSlice _ _ _ => true
    | _ => false
def effIxB : List Oper → Nat
  | [] => 0
  | o :: r => bif quietKindB o then effIxB r + 1 else 0
/-- One evaluation serves every order. -/
theorem draw_rule {X : Ctx} {ops : Array Oper} {K : St → Prop} {st : St} (n : Nat) (hm : X.P.follows .mixedOrders = true) (hB : drawB ops n = true)
    (h : quietD X ops (ops.toList.take n) st fun st => opsD X ops (ops.toList.drop n) st K) : DrawS X ops K st := by
  refine DrawS.mk fun β a w id Q hr hQ => wp_region_any hm ?_
  have hr1 : Rel X st β a { w with drawn := w.drawn + 1 } := hr.drew
  obtain ⟨ds, sts, h0, hK, hstep⟩ := quiet_extract (ops.toList.take n) st _ h ⟨β, a, _, hr1⟩
  obtain ⟨hn, _⟩ := drawB_spec hB
  have hlen : (ops.toList.take n).length = n := by simp; omega
  rw [hlen] at hK
  refine mid_run hB h0 (fun i o hi ho => hstep i o (by rw [List.getElem?_take_of_lt hi, Array.getElem?_toList]; exact ho)) (fun β a w hr => opsD_sound _ _ β a w hK hr hQ) ops.size _ β a _ (by simp) ?_ ?_
  · exact ⟨by simp, fun j oj _ hl => (by rw [getD_replicate_false] at hl; cases hl), fun t _ ht => getD_in (by simpa using ht) (getD_replicate_false _ _)⟩
  · exact ⟨hr1.toW, hr1.defers, hr1.size, fun i o t _ _ _ _ hl => (by rw [getD_replicate_false] at hl; cases hl), fun t _ => hr1.tmps t⟩

def condD (st : St) (c : Operand) (kt kf : Prop) : Prop :=
  match st.ev c with
  | .bool b => (b = true → kt) ∧ (b = false → kf)
  | _ => False

/-- The evaluation of code. -/
def awp (X : Ctx) : Code → (DExit → St → Prop) → St → Prop
  | .skip, Q, st => Q .normal st
  | .label _, Q, st => Q .normal st
  | .region _ ops false, Q, st => opsD X ops ops.toList st (Q .normal)
  | .region _ ops true, Q, st => DrawS X ops (Q .normal) st
  | .seq x y, Q, st => awp X x (fun e st => match e with
    | .normal => awp X y Q st
    | .exit i => Q (.exit i) st
    | .ret => Q .ret st) st
  | .cond c x y, Q, st => condD st c (awp X x Q st) (awp X y Q st)
  | .block id b, Q, st => awp X b (fun e st => match e with
    | .exit i => bif Nat.beq i id then Q .normal st else Q (.exit i) st
    | .normal => Q .normal st
    | .ret => Q .ret st) st
  | .exit id, Q, st => Q (.exit id) st
  | .ret, Q, st => Q .ret st
  | .loop b, Q, st => SemC X (.loop b) Q st
  | .scope b, Q, st => awp X b Q st
  | _, _, _ => False

theorem PostR.mono {X : Ctx} {K K' : St → Prop} (h : ∀ st, K st → K' st) {a : Act} {w : World} : PostR X K a w → PostR X K' a w := fun ⟨st, β, hk, hr⟩ => ⟨st, β, h st hk, hr⟩

theorem awp_sound (X : Ctx) (c : Code) : ∀ (Q : DExit → St → Prop) (st : St), awp X c Q st → ∀ β a w, Rel X st β a w → c.wp X.P (QC X Q) a w := by
  induction c with
  | skip => intro Q st h β a w hr; exact wp_skip ⟨st, β, h, hr⟩
  | label l => intro Q st h β a w hr; exact wp_label ⟨st, β, h, hr⟩
  | region id ops draw =>
    intro Q st h β a w hr
    cases draw with
    | false => exact wp_region_list (opsD_sound _ _ β a w h hr (fun a w hk => hk))
    | true => exact DrawS.out h β a w id _ hr (fun a w hk => hk)
  | seq x y ihx ihy =>
    intro Q st h β a w hr
    refine wp_seq (Code.wp_mono ?_ (ihx _ st h β a w hr))
    intro e a' w' hq
    cases e with
    | normal => obtain ⟨st', β', hk, hr'⟩ := hq; exact ihy _ st' hk β' a' w' hr'
    | exit i => exact hq
    | ret => exact hq
    | goto l => exact hq
    | panic c => exact hq
    | outgrown => exact hq
  | cond c x y ihx ihy =>
    intro Q st h β a w hr
    unfold awp condD at h
    split at h
    · rename_i b hb
      have he := hr.ev c
      rw [hb] at he
      refine wp_cond_split (t := b) he.bool_inv (fun hb => ihx _ st (h.1 hb) β a w hr) (fun hb => ihy _ st (h.2 hb) β a w hr)
    · exact h.elim
  | block id b ih =>
    intro Q st h β a w hr
    refine wp_block (Code.wp_mono ?_ (ih _ st h β a w hr))
    intro e a' w' hq
    cases e with
    | normal => exact hq
    | exit i =>
      simp only [Exit.inBlock]
      obtain ⟨st', β', hk, hr'⟩ := hq
      cases hb : Nat.beq i id with
      | true =>
        have hk : (bif Nat.beq i id then Q .normal st' else Q (.exit i) st') := hk
        rw [hb] at hk
        rw [if_pos (Nat.eq_of_beq_eq_true hb)]
        exact ⟨st', β', hk, hr'⟩
      | false =>
        have hk : (bif Nat.beq i id then Q .normal st' else Q (.exit i) st') := hk
        rw [hb] at hk
        rw [if_neg (fun h => by subst h; simp at hb)]
        exact ⟨st', β', hk, hr'⟩
    | ret => exact hq
    | goto l => exact hq
    | panic c => exact hq
    | outgrown => exact hq
  | exit id => intro Q st h β a w hr; exact wp_exit ⟨st, β, h, hr⟩
  | ret => intro Q st h β a w hr; exact wp_ret ⟨st, β, h, hr⟩
  | loop b _ => intro Q st h β a w hr; exact SemC.out h β a w hr
  | scope b ih =>
    intro Q st h β a w hr
    refine wp_scope_straight (Code.wp_mono ?_ (ih _ st h β a w hr))
    intro e a' w' hq
    cases e <;> first | exact hq | exact hq.elim
  | rangeFunc => intro Q st h; exact h.elim
  | goto => intro Q st h; exact h.elim
  | refuse => intro Q st h; exact h.elim

theorem SemC.of {X : Ctx} {c : Code} {Q : DExit → St → Prop} {st : St} (h : awp X c Q st) : SemC X c Q st := SemC.mk (awp_sound X c Q st h)
theorem SemC.weak {X : Ctx} {c : Code} {Q : DExit → St → Prop} {st st' : St} (hw : Weak st st') (h : SemC X c Q st') : SemC X c Q st :=
  SemC.mk fun β a w hr => let ⟨β', hr'⟩ := hw X β a w hr; SemC.out h β' a w hr'

theorem least {p : Nat → Prop} (h : ∃ n, p n) : ∃ n, p n ∧ ∀ k, k < n → ¬ p k := by
  obtain ⟨n, hn⟩ := h
  induction n using Nat.strongRecOn with
  | _ n ih =>
    by_cases hk : ∃ k, k < n ∧ p k
    · obtain ⟨k, hk, hp⟩ := hk; exact ih k hk hp
    · exact ⟨n, hn, fun k hkn hp => hk ⟨k, hkn, hp⟩⟩

/-- A loop: an invariant over what has been done, and a measure. -/
theorem loop_rule {X : Ctx} {b : Code} {Q : DExit → St → Prop} {st : St} {γ : Type} (I : γ → St) (inv : γ → Prop) (μ : γ → Nat) (g0 : γ) (h0 : inv g0) (hw : Weak st (I g0))
    (round : ∀ g, inv g → awp X b (fun e st' => match e with
      | .normal => ∃ g', inv g' ∧ μ g' < μ g ∧ Weak st' (I g')
      | .exit i => Q (.exit i) st'
      | .ret => Q .ret st') (I g)) : SemC X (.loop b) Q st := by
  refine SemC.mk fun β a w hr => ?_
  let J : Nat → Act → World → Prop := fun m a w => ∃ g β, inv g ∧ μ g = m ∧ Rel X (I g) β a w
  let Inv : Act → World → Prop := fun a w => ∃ m, J m a w
  have hmin : ∀ a w, Inv a w → ∃ m, J m a w ∧ ∀ k, k < m → ¬ J k a w := fun a w h => least h
  let M : Act → World → Nat := fun a w => open Classical in if h : Inv a w then (hmin a w h).choose else 0
  refine wp_loop Inv M ?_ ?_
  · obtain ⟨β', hr'⟩ := hw X β a w hr
    exact ⟨μ g0, g0, β', h0, rfl, hr'⟩
  · intro a w hI
    have hM : M a w = (hmin a w hI).choose := by simp [M, hI]
    obtain ⟨⟨g, β, hg, hμ, hr⟩, hleast⟩ := (hmin a w hI).choose_spec
    refine Code.wp_mono ?_ (awp_sound X b _ _ (round g hg) β a w hr)
    intro e a' w' hq
    cases e with
    | normal =>
      obtain ⟨st', β', ⟨g', hg', hlt, hwk⟩, hr'⟩ := hq
      obtain ⟨β2, hr2⟩ := hwk X β' a' w' hr'
      have hI' : Inv a' w' := ⟨μ g', g', β2, hg', rfl, hr2⟩
      refine ⟨hI', ?_⟩
      have hM' : M a' w' = (hmin a' w' hI').choose := by simp [M, hI']
      have hle : M a' w' ≤ μ g' := by
        rw [hM']
        rcases Nat.lt_or_ge (μ g') (hmin a' w' hI').choose with h | h
        · exact absurd ⟨g', β2, hg', rfl, hr2⟩ ((hmin a' w' hI').choose_spec.2 _ h)
        · exact h
      rw [hM, ← hμ]
      omega
    | exit i => exact hq
    | ret => exact hq
    | goto l => exact hq
    | panic c => exact hq
    | outgrown => exact hq
end Go.Eng
