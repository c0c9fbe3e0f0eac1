/-
  Contracts of functions of the program and of the reference, and plain laws: a bundle of texts.
  No conditions.
-/
import Derived.Test.YtigdnelbanaieaaGreatDoorED
import Derived.Test.YtigdnelbanaieaaGreatDoorVX
import Derived.Test.YtigdnelbanaieaaGreatDoorMF0
import Derived.Test.YtigdnelbanaieaaGreatDoorWF0
import Derived.Test.YtigdnelbanaieaaGreatDoorVY
set_option linter.unusedVariables false
set_option linter.unusedSimpArgs false
set_option maxHeartbeats 4000000
namespace Go.Eng
open Go Go.RowKit Go.Proofs
set_option maxRecDepth 100000
def clashB (a b : TCue) : Bool := (a.fTarget == b.fTarget) && (decide (b.fTime = a.fTime) || decide (b.fTime < a.fTime + a.fLength))
def clashI (a : TCue) (i : Nat) : List TCue → Nat → List (List Int)
  | [], _ => []
  | b :: r, k => (if clashB a b = true then [[(i : Int), (k : Int)]] else []) ++ clashI a i r (k + 1)
def clashL : List TCue → Nat → List (List Int)
  | [], _ => []
  | a :: r, i => clashI a i r (i + 1) ++ clashL r (i + 1)
theorem drop_at {α : Type} {a : List α} {k : Nat} {x : α} (hx : a[k]? = some x) : a.drop k = x :: a.drop (k + 1) :=
  (List.getElem?_eq_some_iff.1 hx).2 ▸ List.drop_eq_getElem_cons (List.getElem?_eq_some_iff.1 hx).1
theorem clashI_yes {C : List TCue} {a b : TCue} {i k : Nat} (hb : C[k]? = some b) (h : clashB a b = true) : clashI a i (C.drop k) k = [(i : Int), (k : Int)] :: clashI a i (C.drop (k + 1)) (k + 1) := by
  rw [drop_at hb, clashI, if_pos h]; rfl
theorem clashI_no {C : List TCue} {a b : TCue} {i k : Nat} (hb : C[k]? = some b) (h : clashB a b = false) : clashI a i (C.drop k) k = clashI a i (C.drop (k + 1)) (k + 1) := by
  rw [drop_at hb, clashI, h]; rfl
theorem clashI_end {C : List TCue} {a : TCue} {i k : Nat} (h : C.length ≤ k) : clashI a i (C.drop k) k = [] := by
  rw [List.drop_of_length_le h]; rfl
theorem clashL_go {C : List TCue} {a : TCue} {i : Nat} (ha : C[i]? = some a) : clashL (C.drop i) i = clashI a i (C.drop (i + 1)) (i + 1) ++ clashL (C.drop (i + 1)) (i + 1) := by
  rw [drop_at ha, clashL]
theorem clashL_end {C : List TCue} {i : Nat} (h : C.length ≤ i) : clashL (C.drop i) i = [] := by
  rw [List.drop_of_length_le h]; rfl
theorem clashI_len (a : TCue) (i : Nat) : ∀ (r : List TCue) (k : Nat), (clashI a i r k).length ≤ r.length
  | [], _ => by simp [clashI]
  | b :: r, k => by
    have h := clashI_len a i r (k + 1)
    simp only [clashI, List.length_append, List.length_cons]
    split <;> simp <;> omega
theorem clashL_len : ∀ (r : List TCue) (i : Nat), r.length ≤ 32 → (clashL r i).length ≤ 32 * r.length
  | [], _, _ => by simp [clashL]
  | a :: r, i, hl => by
    have h := clashL_len r (i + 1) (by simp at hl; omega)
    have h2 := clashI_len a i r (i + 1)
    simp only [clashL, List.length_append, List.length_cons] at hl ⊢
    omega
/-- A pair of places. -/
def pairB (n : Nat) (s : List Int) : Prop := ∃ i k : Nat, s = [(i : Int), (k : Int)] ∧ i < n ∧ k < n
theorem clashI_mem (a : TCue) (i n : Nat) (hi : i < n) : ∀ (r : List TCue) (k : Nat), k + r.length ≤ n → ∀ s ∈ clashI a i r k, pairB n s
  | [], _, _, s, h => by cases h
  | b :: r, k, hl, s, h => by
    simp only [List.length_cons] at hl
    rw [clashI] at h
    rcases List.mem_append.1 h with h | h
    · split at h
      · rcases List.mem_singleton.1 h with rfl
        exact ⟨i, k, rfl, hi, by omega⟩
      · cases h
    · exact clashI_mem a i n hi r (k + 1) (by omega) s h
theorem clashL_mem (n : Nat) : ∀ (r : List TCue) (i : Nat), i + r.length ≤ n → ∀ s ∈ clashL r i, pairB n s
  | [], _, _, s, h => by cases h
  | a :: r, i, hl, s, h => by
    simp only [List.length_cons] at hl
    rw [clashL] at h
    rcases List.mem_append.1 h with h | h
    · exact clashI_mem a i n (by omega) r (i + 1) (by omega) s h
    · exact clashL_mem n r (i + 1) (by omega) s h
/-- What a script's run ends with: a number of steps, the place, the time, how many events, the counters. -/
def runF (S : List TLine) : Nat → Nat → Int → Nat → List Int → Int
  | 0, p, _, _, _ => if p < S.length then 5 else 0
  | n + 1, p, t, e, c => match S[p]? with
    | none => 0
    | some x =>
      if x.fKind = 2 then (if 7200000 < t + x.fValue then 6 else runF S n (p + 1) (t + x.fValue) e c)
      else if x.fKind = 3 then (if e = 64 then 5 else runF S n (p + 1) t (e + 1) c)
      else if x.fKind = 4 then (if c.getD p 0 < x.fValue then runF S n (idxQ (isLab x.fName) S).toNat t e (c.set p (c.getD p 0 + 1)) else runF S n (p + 1) t e (c.set p 0))
      else if x.fKind = 5 then 0
      else runF S n (p + 1) t e c
def runC (S : List TLine) (b : Int) : Int := runF S b.toNat 0 0 0 (List.replicate S.length 0)
section
variable {S : List TLine} {n p e : Nat} {t : Int} {c : List Int} {x : TLine}
theorem runF_end (h : ¬ p < S.length) : runF S n p t e c = 0 := by
  cases n with
  | zero => rw [runF, if_neg h]
  | succ n => rw [runF, List.getElem?_eq_none (by omega)]
theorem runF_full (h : p < S.length) : runF S 0 p t e c = 5 := by rw [runF, if_pos h]
theorem runF_late (hx : S[p]? = some x) (hk : x.fKind = 2) (h : 7200000 < t + x.fValue) : runF S (n + 1) p t e c = 6 := by simp [runF, hx, hk, h]
theorem runF_wait (hx : S[p]? = some x) (hk : x.fKind = 2) (h : ¬ 7200000 < t + x.fValue) : runF S (n + 1) p t e c = runF S n (p + 1) (t + x.fValue) e c := by simp [runF, hx, hk, h]
theorem runF_most (hx : S[p]? = some x) (hk : x.fKind = 3) (h : e = 64) : runF S (n + 1) p t e c = 5 := by simp [runF, hx, hk, h]
theorem runF_fire (hx : S[p]? = some x) (hk : x.fKind = 3) (h : ¬ e = 64) : runF S (n + 1) p t e c = runF S n (p + 1) t (e + 1) c := by simp [runF, hx, hk, h]
theorem runF_jump {v : Int} (hx : S[p]? = some x) (hk : x.fKind = 4) (hv : c[p]? = some v) (h : v < x.fValue) : runF S (n + 1) p t e c = runF S n (idxQ (isLab x.fName) S).toNat t e (c.set p (v + 1)) := by
  simp [runF, hx, hk, hv, h]
theorem runF_pass {v : Int} (hx : S[p]? = some x) (hk : x.fKind = 4) (hv : c[p]? = some v) (h : ¬ v < x.fValue) : runF S (n + 1) p t e c = runF S n (p + 1) t e (c.set p 0) := by
  simp [runF, hx, hk, hv, h]
theorem runF_stop (hx : S[p]? = some x) (hk : x.fKind = 5) : runF S (n + 1) p t e c = 0 := by simp [runF, hx, hk]
theorem runF_label (hx : S[p]? = some x) (h2 : ¬ x.fKind = 2) (h3 : ¬ x.fKind = 3) (h4 : ¬ x.fKind = 4) (h5 : ¬ x.fKind = 5) : runF S (n + 1) p t e c = runF S n (p + 1) t e c := by simp [runF, hx, h2, h3, h4, h5]
end
theorem runF_code (S : List TLine) : ∀ (n p : Nat) (t : Int) (e : Nat) (c : List Int), runF S n p t e c = 0 ∨ runF S n p t e c = 5 ∨ runF S n p t e c = 6 := by
  intro n
  induction n with
  | zero => intro p t e c; unfold runF; split <;> omega
  | succ n ih =>
    intro p t e c
    unfold runF
    split
    · omega
    · (repeat' split) <;> first | omega | exact ih _ _ _ _
theorem runC_code (S : List TLine) (b : Int) : runC S b = 0 ∨ runC S b = 5 ∨ runC S b = 6 := runF_code S _ _ _ _ _
theorem scrs_line {S : List TLine} (h : scrsB S = true) {k : Nat} {x : TLine} (hx : S[k]? = some x) : (x.fKind = 2 → 1 ≤ x.fValue ∧ x.fValue ≤ 7200000) ∧ (x.fKind = 4 → (1 ≤ x.fValue ∧ x.fValue ≤ 100) ∧ 0 ≤ idxQ (isLab x.fName) S) := by
  simp only [scrsB, Bool.and_eq_true] at h
  have h2 := allI_at h.2 hx
  simp only [scrP, Bool.and_eq_true] at h2
  refine ⟨fun hk => ?_, fun hk => ?_⟩
  · have h3 := h2.1
    rw [scr_k2 hk] at h3
    simp only [inB, Bool.and_eq_true, decide_eq_true_eq] at h3
    exact h3.2
  · have h3 := h2.1
    rw [scr_k4 hk] at h3
    simp only [inB, Bool.and_eq_true, decide_eq_true_eq] at h3
    have h4 := h2.2.2
    rw [hk] at h4
    simp at h4
    exact ⟨h3.2, h4⟩
theorem scrs_len {S : List TLine} (h : scrsB S = true) : S.length ≤ 40 := by
  simp only [scrsB, Bool.and_eq_true, decide_eq_true_eq] at h
  exact h.1
theorem idxQ_range {α : Type} (q : α → Bool) (a : List α) : -1 ≤ idxQ q a ∧ idxQ q a < a.length := by
  unfold idxQ
  split <;> omega
/-- The names that a script fires. -/
def fireL (S : List TLine) : List (List UInt8) := (S.filter fun x => decide (x.fKind = 3)).map (·.fName)
def fireS (S : List TLine) : List (List UInt8) := (fireL S).foldl insS []
theorem fireL_yes {S : List TLine} {k : Nat} {x : TLine} (hx : S[k]? = some x) (h : x.fKind = 3) : fireL (S.take (k + 1)) = fireL (S.take k) ++ [x.fName] := by
  unfold fireL
  rw [List.take_add_one, hx, Option.toList_some, List.filter_append, List.map_append]
  simp [h]
theorem fireL_no {S : List TLine} {k : Nat} {x : TLine} (hx : S[k]? = some x) (h : ¬ x.fKind = 3) : fireL (S.take (k + 1)) = fireL (S.take k) := by
  unfold fireL
  rw [List.take_add_one, hx, Option.toList_some, List.filter_append, List.map_append]
  simp [h]
theorem fireL_len (S : List TLine) : (fireL S).length ≤ S.length := by
  unfold fireL
  rw [List.length_map]
  exact List.length_filter_le _ _
theorem fireS_yes {S : List TLine} {k : Nat} {x : TLine} (hx : S[k]? = some x) (h : x.fKind = 3) : fireS (S.take (k + 1)) = insS (fireS (S.take k)) x.fName := by
  unfold fireS
  rw [fireL_yes hx h, List.foldl_append]
  rfl
theorem fireS_no {S : List TLine} {k : Nat} {x : TLine} (hx : S[k]? = some x) (h : ¬ x.fKind = 3) : fireS (S.take (k + 1)) = fireS (S.take k) := by
  unfold fireS
  rw [fireL_no hx h]
theorem fireS_len (S : List TLine) : (fireS S).length ≤ S.length := by
  have h := foldS_len (fireL S) []
  have h2 := fireL_len S
  unfold fireS
  simp only [List.length_nil] at h
  omega
theorem insS_have {a : List (List UInt8)} {t : List UInt8} (h : a[insAt Op.bytesLess a t]? = some t) : insS a t = a := by
  have hf : insF Op.bytesLess (fun x y => x == y) a t = true := by simp [insF, h]
  unfold insS insL insN
  rw [if_pos hf, ← drop_at h, List.take_append_drop]
theorem insS_new {a : List (List UInt8)} {t : List UInt8} (h : ∀ x, a[insAt Op.bytesLess a t]? = some x → x ≠ t) : insS a t = a.take (insAt Op.bytesLess a t) ++ t :: a.drop (insAt Op.bytesLess a t) := by
  have hf : ¬ insF Op.bytesLess (fun x y => x == y) a t = true := by
    intro h2
    unfold insF at h2
    cases h3 : a[insAt Op.bytesLess a t]? with
    | none => rw [h3] at h2; simp at h2
    | some x =>
      rw [h3] at h2
      simp at h2
      exact h x h3 h2.symm
  unfold insS insL insN
  rw [if_neg hf]
def codeL : List (List UInt8) := [[111, 107], [105, 110, 118, 97, 108, 105, 100], [114, 97, 110, 103, 101], [110, 111, 116, 45, 102, 111, 117, 110, 100], [101, 120, 105, 115, 116, 115], [102, 117, 108, 108], [115, 116, 97, 116, 101], [111, 114, 100, 101, 114], [115, 121, 110, 116, 97, 120], [102, 111, 114, 109, 97, 116], [99, 104, 101, 99, 107, 115, 117, 109], [116, 114, 117, 110, 99, 97, 116, 101, 100]]
def codeT (c : Int) : List UInt8 := if 0 ≤ c ∧ c ≤ 11 then codeL.getD c.toNat [] else []
def noCue : TCue := ⟨[], 0, 0, [], 0, 0⟩
def pairF (C : List TCue) (s : List Int) : TFinding := ⟨2, (C.getD (s.getD 0 0).toNat noCue).fId, (C.getD (s.getD 1 0).toNat noCue).fId⟩
def isFix (t : List UInt8) (f : TFixture) : Bool := f.fName == t
def missB (F : List TFixture) (c : TCue) : Bool := decide (idxQ (isFix c.fTarget) F < 0)
def targF (F : List TFixture) (C : List TCue) : List TFinding := (C.filter (missB F)).map fun c => ⟨4, c.fId, c.fTarget⟩
def runT : List UInt8 := [114, 117, 110]
def unknT : List UInt8 := [117, 110, 107, 110, 111, 119, 110]
def runFi (c : Int) : List TFinding := if c = 0 then [] else [⟨3, runT, codeT c⟩]
def unkB (C : List TCue) (n : List UInt8) : Bool := decide (idxQ (isCue n) C < 0)
def unkF (C : List TCue) (N : List (List UInt8)) : List TFinding := (N.filter (unkB C)).map fun n => ⟨3, n, unknT⟩
def cue1 (h : THouse) : List TFinding := (clashL h.fCues 0).map (pairF h.fCues)
def cue2 (h : THouse) : List TFinding := cue1 h ++ targF h.fFixtures h.fCues
def cue3 (h : THouse) : List TFinding := cue2 h ++ runFi (runC h.fScript h.fBudget)
def cueAll (h : THouse) : List TFinding := cue3 h ++ unkF h.fCues (fireS h.fScript)
theorem targF_yes {F : List TFixture} {C : List TCue} {k : Nat} {c : TCue} (hc : C[k]? = some c) (h : idxQ (isFix c.fTarget) F < 0) : targF F (C.take (k + 1)) = targF F (C.take k) ++ [⟨4, c.fId, c.fTarget⟩] := by
  unfold targF
  rw [List.take_add_one, hc, Option.toList_some, List.filter_append, List.map_append]
  simp [missB, h]
theorem targF_no {F : List TFixture} {C : List TCue} {k : Nat} {c : TCue} (hc : C[k]? = some c) (h : ¬ idxQ (isFix c.fTarget) F < 0) : targF F (C.take (k + 1)) = targF F (C.take k) := by
  unfold targF
  rw [List.take_add_one, hc, Option.toList_some, List.filter_append, List.map_append]
  simp [missB, h]
theorem targF_len (F : List TFixture) (C : List TCue) : (targF F C).length ≤ C.length := by
  unfold targF
  rw [List.length_map]
  exact List.length_filter_le _ _
theorem unkF_yes {C : List TCue} {N : List (List UInt8)} {k : Nat} {n : List UInt8} (hn : N[k]? = some n) (h : idxQ (isCue n) C < 0) : unkF C (N.take (k + 1)) = unkF C (N.take k) ++ [⟨3, n, unknT⟩] := by
  unfold unkF
  rw [List.take_add_one, hn, Option.toList_some, List.filter_append, List.map_append]
  simp [unkB, h]
theorem unkF_no {C : List TCue} {N : List (List UInt8)} {k : Nat} {n : List UInt8} (hn : N[k]? = some n) (h : ¬ idxQ (isCue n) C < 0) : unkF C (N.take (k + 1)) = unkF C (N.take k) := by
  unfold unkF
  rw [List.take_add_one, hn, Option.toList_some, List.filter_append, List.map_append]
  simp [unkB, h]
theorem unkF_len (C : List TCue) (N : List (List UInt8)) : (unkF C N).length ≤ N.length := by
  unfold unkF
  rw [List.length_map]
  exact List.length_filter_le _ _
end Go.Eng

namespace Go.Eng
open Go Go.RowKit Go.Proofs
set_option maxRecDepth 100000
theorem loop_env6 {X : Ctx} {b : Code} {Q : DExit → St → Prop} {env0 : List (Nat × D)} {nt : Nat} {objs0 : List Obj} {g : Nat → Option (List D)} {pin : Nat} {α1 α2 α3 α4 α5 α6 : Type}
    (E : α1 → α2 → α3 → α4 → α5 → α6 → List (Nat × D)) (O : α1 → α2 → α3 → α4 → α5 → α6 → List Obj) (inv : α1 → α2 → α3 → α4 → α5 → α6 → Prop) (μ : α1 → α2 → α3 → α4 → α5 → α6 → Nat) (a1 : α1) (a2 : α2) (a3 : α3) (a4 : α4) (a5 : α5) (a6 : α6)
    (h0 : inv a1 a2 a3 a4 a5 a6) (hw : Weak ⟨env0, nt, objs0, g, pin⟩ ⟨E a1 a2 a3 a4 a5 a6, nt, O a1 a2 a3 a4 a5 a6, g, pin⟩)
    (round : ∀ x1 x2 x3 x4 x5 x6, inv x1 x2 x3 x4 x5 x6 → ∀ Q' : DExit → St → Prop, (∀ st', (∃ y1 y2 y3 y4 y5 y6, inv y1 y2 y3 y4 y5 y6 ∧ μ y1 y2 y3 y4 y5 y6 < μ x1 x2 x3 x4 x5 x6 ∧ Weak st' ⟨E y1 y2 y3 y4 y5 y6, nt, O y1 y2 y3 y4 y5 y6, g, pin⟩) → Q' .normal st') → (∀ i st', Q (.exit i) st' → Q' (.exit i) st') →
      (∀ st', Q .ret st' → Q' .ret st') → awp X b Q' ⟨E x1 x2 x3 x4 x5 x6, nt, O x1 x2 x3 x4 x5 x6, g, pin⟩) : SemC X (.loop b) Q ⟨env0, nt, objs0, g, pin⟩ :=
  loop_env (γ := α1 × α2 × α3 × α4 × α5 × α6) (fun x => E x.1 x.2.1 x.2.2.1 x.2.2.2.1 x.2.2.2.2.1 x.2.2.2.2.2) (fun x => O x.1 x.2.1 x.2.2.1 x.2.2.2.1 x.2.2.2.2.1 x.2.2.2.2.2) (fun x => inv x.1 x.2.1 x.2.2.1 x.2.2.2.1 x.2.2.2.2.1 x.2.2.2.2.2) (fun x => μ x.1 x.2.1 x.2.2.1 x.2.2.2.1 x.2.2.2.2.1 x.2.2.2.2.2) (a1, a2, a3, a4, a5, a6) h0 hw
    (fun x hx Q' hn he hr => round x.1 x.2.1 x.2.2.1 x.2.2.2.1 x.2.2.2.2.1 x.2.2.2.2.2 hx Q' (fun st' ⟨y1, y2, y3, y4, y5, y6, h1, h2, h3⟩ => hn st' ⟨(y1, y2, y3, y4, y5, y6), h1, h2, h3⟩) he hr)
theorem Rep.junk4 {F : Nat → Prop} {β : Nat → Option Value} {w : World} {v : Value} {c0 c1 c2 c3 b : D} (h : Rep F β w v (.tup [.agg [c0, c1, c2, c3], b])) : Rep F β w v (.tup [.agg [.junk, .junk, .junk, .junk], b]) := by
  obtain ⟨cs, rfl, hl, hr⟩ := h.tup_inv
  refine .tup cs _ (by simpa using hl) (fun i hi => ?_)
  match i with
  | 0 =>
    have h0 : Rep F β w (cs.getD 0 undef) (.agg [c0, c1, c2, c3]) := hr 0 (by simp)
    obtain ⟨us, hus, hlen, h1, hrr⟩ := h0.agg_inv
    show Rep F β w (cs.getD 0 undef) (.agg [.junk, .junk, .junk, .junk])
    rw [hus]
    refine .agg us _ (by simpa using hlen) h1 (fun j hj => ?_)
    have e : [D.junk, D.junk, D.junk, D.junk].getD j .junk = .junk := by
      match j with
      | 0 => rfl
      | 1 => rfl
      | 2 => rfl
      | 3 => rfl
      | j + 4 => rfl
    rw [e]
    exact .ro _ _ (.junk _)
  | 1 => exact hr 1 (by simp)
  | i + 2 => simp at hi; omega
theorem ret_junk4 {X : Ctx} {G : Nat → Option (List D)} {pin : Nat} {st : St} {c0 c1 c2 c3 b : D} {post : D → List Obj → Prop} (h : RetS X G pin st (.tup [.agg [.junk, .junk, .junk, .junk], b]) post) : RetS X G pin st (.tup [.agg [c0, c1, c2, c3], b]) post :=
  RetS.mk fun β a w v hr hv => h.use β a w v hr hv.junk4
theorem Rep.junk1 {F : Nat → Prop} {β : Nat → Option Value} {w : World} {v : Value} {a b : D} (h : Rep F β w v (.tup [a, b])) : Rep F β w v (.tup [.junk, b]) := by
  obtain ⟨cs, rfl, hl, hr⟩ := h.tup_inv
  refine .tup cs _ (by simpa using hl) (fun i hi => ?_)
  match i with
  | 0 => exact .ro _ _ (.junk _)
  | 1 => exact hr 1 (by simp)
  | i + 2 => simp at hi; omega
theorem ret_junk1 {X : Ctx} {G : Nat → Option (List D)} {pin : Nat} {st : St} {a b : D} {post : D → List Obj → Prop} (h : RetS X G pin st (.tup [.junk, b]) post) : RetS X G pin st (.tup [a, b]) post :=
  RetS.mk fun β a w v hr hv => h.use β a w v hr hv.junk1
def encEv (e : Int × List UInt8) : List D := [.int .i64 e.1, .str e.2]
def boolE (b : Bool) : List D := [.bool b]
def nilV : D := .v (.slice none 0 0)
def goodC (c : List Int) : Prop := ∀ (k : Nat) v, c[k]? = some v → 0 ≤ v ∧ v ≤ 100
theorem goodC_set {c : List Int} (h : goodC c) (k : Nat) {v : Int} (hv : 0 ≤ v ∧ v ≤ 100) : goodC (c.set k v) := by
  intro j x hx
  rw [List.getElem?_set] at hx
  split at hx
  · split at hx
    · cases hx; exact hv
    · cases hx
  · exact h j x hx
theorem goodC_zero (n : Nat) : goodC (List.replicate n 0) := by
  intro j x hx
  rw [List.getElem?_replicate] at hx
  split at hx
  · cases hx; omega
  · cases hx
set_option maxHeartbeats 16000000 in
theorem c_impl_runScript (S : List TLine) (b : Int) (hv : scrsB S = true) (hb0 : 1 ≤ b ∧ b ≤ 20000) : FnC Tryz.prog 162 G0 0 [] [.sl 3 (S.map encLine), .int .i64 b] (fun d os => d = .tup [.agg [.junk, .junk, .junk, .junk], .int .i64 (runC S b)] ∧ os = []) := by
  have hv2 : inB b 1 20000 = true := by simp [inB]; omega
  have hsl := scrs_len hv
  refine fn_rule Tryz.func162 rfl (by decide +kernel) rfl (fun w0 F0 lent β0 => ?_)
  repeat' (first | refine sC ?_ | ((with_reducible refine isAwp ?_); first | (refine sS ?_; intro Q' hn he hr) | refine sA ?_) | (refine sH ?_; clear hn he hr Q') | ((conv => whnf); first | refine sK ?_ | (refine sB ?_; repeat' (refine sb2 ?_ ?_ <;> intro hb <;> try exact cls)) | ((with_reducible refine isCall ?_); first | (refine call_pure (c_impl_ValidScript S) rfl rfl ?_) | (refine call_pure (c_within _ _ _) rfl rfl ?_)) | refine sP ?_ | (refine sL ?_; intro hlen)))
  refine loop_env6 (fun (n p : Nat) (t : Int) (ev : List (Int × List UInt8)) (rb : List Bool) (c : List Int) => [(0,.sl 3 (S.map encLine)),(1,.int .i64 b),(4,.hp 0 0),(6,.hp 2 0),(7,.h 3),(8,.int .i64 p)]) (fun n p t ev rb c => [.box [nilV, .int .i64 0, .int .i64 0, nilV], .row 4 1 (rb.map boolE), .box [.h 4, .int .i64 t, .int .i64 (b - n), .h 1], .row 2 1 (c.map encI), .row 240 2 (ev.map encEv)]) (fun n p t ev rb c => runF S n p t ev.length c = runC S b ∧ (n : Int) ≤ b ∧ (0 ≤ t ∧ t ≤ 7200000) ∧ (ev.length ≤ 64 ∧ rb.length = S.length ∧ c.length = S.length ∧ goodC c ∧ p ≤ S.length)) (fun n _ _ _ _ _ => n) b.toNat 0 0 [] (List.replicate S.length false) (List.replicate S.length 0) ⟨rfl, by omega, by omega, by simp, by simp, by simp, goodC_zero _, by omega⟩ (by refine Weak.trans (weak_adopt_box 2 0 240 2 rfl rfl rfl rfl) (weak_to rfl rfl ?_ ?_); (simp only [List.map_replicate]; rw [show b - ((b.toNat : Nat) : Int) = 0 by omega]; rfl); exact ⟨rfl, rfl, rfl, rfl, rfl, rfl, trivial⟩) (fun n p t ev rb c hk Q' hn he hr => ?_)
  obtain ⟨hk1, hk2, hk3, hk4, hk5, hk6, hk7, hk8⟩ := hk
  by_cases hpl : p < S.length
  · obtain ⟨ln, hx0⟩ : ∃ ln, S[p]? = some ln := ⟨_, List.getElem?_eq_getElem hpl⟩
    obtain ⟨v, hcv⟩ : ∃ v, c[p]? = some v := ⟨_, List.getElem?_eq_getElem (by omega)⟩
    obtain ⟨hl2, hl4⟩ := scrs_line hv hx0
    have hcb := hk7 _ _ hcv
    have hix := idxQ_range (isLab ln.fName) S
    cases n with
    | zero =>
      rw [runF_full hpl] at hk1
      repeat' (first | refine sC ?_ | ((with_reducible refine isAwp ?_); first | (refine sS ?_; intro Q' hn he hr) | refine sA ?_) | (refine sH ?_; clear hn he hr Q') | ((conv => whnf); first | refine sK ?_ | (refine sB ?_; repeat' (refine sb2 ?_ ?_ <;> intro hb <;> try exact cls)) | ((with_reducible refine isRet ?_); (refine ret_junk4 ?_; refine ret_pick [] rfl rfl rfl ⟨?_, rfl⟩)) | (refine sL ?_; intro hlen)))
      all_goals first
        | (exfalso; omega)
        | (rw [← hk1]; rfl)
    | succ n =>
      have hst : b - (n : Int) = b - ((n + 1 : Nat) : Int) + 1 := by omega
      repeat' (first | refine sC ?_ | ((with_reducible refine isAwp ?_); first | (refine sS ?_; intro Q' hn he hr) | refine sA ?_) | (refine sH ?_; clear hn he hr Q') | refine sO ?_ | ((conv => whnf); first | refine sK ?_ | (refine sB ?_; repeat' (refine sb2 ?_ ?_ <;> intro hb <;> try exact cls)) | (refine ElemS.the hx0 ?_) | (refine ElemS.the hcv ?_) | ((with_reducible refine isCall ?_); (refine call_pure (c_impl_labelIndex S ln.fName) rfl rfl ?_)) | ((with_reducible refine isRet ?_); (refine ret_junk4 ?_; refine ret_pick [] rfl rfl rfl ⟨?_, rfl⟩)) | refine sP ?_ | (refine sE ?_; intro x hx) | (refine sL ?_; intro hlen) | refine sD ?_))
      all_goals first
        | (exfalso; omega)
        | (rw [← hk1, runF_late hx0 (by assumption) (by omega)]; rfl)
        | (rw [← hk1, runF_most hx0 (by assumption) (by omega)]; rfl)
        | (rw [← hk1, runF_stop hx0 (by assumption)]; rfl)
        | exact ⟨n, p + 1, t + ln.fValue, ev, rb.set p true, c, ⟨by rw [← hk1, runF_wait hx0 (by assumption) (by omega)], by omega, by omega, hk4, by rw [List.length_set]; exact hk5, hk6, hk7, by omega⟩, by omega, (by refine weak_to rfl rfl (by rw [hst, List.map_set]; rfl) ?_; ((repeat' (first | exact trivial | refine And.intro ?_ ?_)) <;> (first | rfl | (conv => rhs; whnf) <;> (first | rfl | (refine congrArg (D.int _) ?_; omega)))))⟩
        | exact ⟨n, p + 1, t, ev ++ [(t, ln.fName)], rb.set p true, c, ⟨by rw [← hk1, runF_fire hx0 (by assumption) (by omega), List.length_append]; rfl, by omega, by omega, by rw [List.length_append]; simp; omega, by rw [List.length_set]; exact hk5, hk6, hk7, by omega⟩, by omega, (by refine weak_to rfl rfl (by rw [hst, List.map_set, List.map_append]; rfl) ?_; ((repeat' (first | exact trivial | refine And.intro ?_ ?_)) <;> (first | rfl | (conv => rhs; whnf) <;> (first | rfl | (refine congrArg (D.int _) ?_; omega)))))⟩
        | exact ⟨n, (idxQ (isLab ln.fName) S).toNat, t, ev, rb.set p true, c.set p (v + 1), ⟨by rw [← hk1, runF_jump hx0 (by assumption) hcv (by omega)], by omega, by omega, hk4, by rw [List.length_set]; exact hk5, by rw [List.length_set]; exact hk6, goodC_set hk7 _ (by have := hl4 (by assumption); omega), by omega⟩, by omega, (by refine weak_to rfl rfl (by rw [hst, List.map_set, List.map_set]; rfl) ?_; ((repeat' (first | exact trivial | refine And.intro ?_ ?_)) <;> (first | rfl | (conv => rhs; whnf) <;> (first | rfl | (refine congrArg (D.int _) ?_; omega)))))⟩
        | exact ⟨n, p + 1, t, ev, rb.set p true, c.set p 0, ⟨by rw [← hk1, runF_pass hx0 (by assumption) hcv (by omega)], by omega, by omega, hk4, by rw [List.length_set]; exact hk5, by rw [List.length_set]; exact hk6, goodC_set hk7 _ (by omega), by omega⟩, by omega, (by refine weak_to rfl rfl (by rw [hst, List.map_set, List.map_set]; rfl) ?_; ((repeat' (first | exact trivial | refine And.intro ?_ ?_)) <;> (first | rfl | (conv => rhs; whnf) <;> (first | rfl | (refine congrArg (D.int _) ?_; omega)))))⟩
        | exact ⟨n, p + 1, t, ev, rb.set p true, c, ⟨by rw [← hk1, runF_label hx0 (by assumption) (by assumption) (by assumption) (by assumption)], by omega, by omega, hk4, by rw [List.length_set]; exact hk5, hk6, hk7, by omega⟩, by omega, (by refine weak_to rfl rfl (by rw [hst, List.map_set]; rfl) ?_; ((repeat' (first | exact trivial | refine And.intro ?_ ?_)) <;> (first | rfl | (conv => rhs; whnf) <;> (first | rfl | (refine congrArg (D.int _) ?_; omega)))))⟩
        | skip
  · rw [runF_end hpl] at hk1
    repeat' (first | refine sC ?_ | ((with_reducible refine isAwp ?_); first | (refine sS ?_; intro Q' hn he hr) | refine sA ?_) | (refine sH ?_; clear hn he hr Q') | ((conv => whnf); first | refine sK ?_ | (refine sB ?_; repeat' (refine sb2 ?_ ?_ <;> intro hb <;> try exact cls)) | ((with_reducible refine isRet ?_); (refine ret_junk4 ?_; refine ret_pick [] rfl rfl rfl ⟨?_, rfl⟩)) | (refine sL ?_; intro hlen) | (refine sH ?_; clear hn he hr Q')))
    rw [← hk1]
    rfl
theorem c_impl_RunScript (S : List TLine) (b : Int) (hv : scrsB S = true) (hb0 : 1 ≤ b ∧ b ≤ 20000) : FnC Tryz.prog 102 G0 0 [] [.sl 3 (S.map encLine), .int .i64 b] (fun d os => d = .tup [.junk, .int .i64 (runC S b)] ∧ os = []) := by
  refine fn_rule Tryz.func102 rfl (by decide +kernel) rfl (fun w0 F0 lent β0 => ?_)
  repeat' (first | refine sC ?_ | ((with_reducible refine isAwp ?_); first | (refine sS ?_; intro Q' hn he hr) | refine sA ?_) | (refine sH ?_; clear hn he hr Q') | ((conv => whnf); first | refine sK ?_ | ((with_reducible refine isCall ?_); (refine call_pure (c_impl_runScript S b hv hb0) rfl rfl ?_)) | (refine ret_pick [] rfl rfl rfl ⟨?_, rfl⟩; conv => lhs; whnf)))
  all_goals rfl
end Go.Eng

namespace Go.Eng
open Go Go.RowKit Go.Proofs
set_option maxRecDepth 100000
/-- A number put to its place among others; b: it stands already. -/
def putF (x : Int) : List Int → Bool → List Int
  | [], b => if b = true then [] else [x]
  | y :: r, true => y :: putF x r true
  | y :: r, false => if x ≤ y then (if x < y then [x] else []) ++ y :: putF x r true else y :: putF x r false
theorem putF_len (x : Int) : ∀ (a : List Int) (b : Bool), (putF x a b).length ≤ a.length + 1
  | [], b => by unfold putF; split <;> simp
  | y :: r, true => by
    have := putF_len x r true
    simp only [putF, List.length_cons]; omega
  | y :: r, false => by
    have h1 := putF_true x r
    have h2 := putF_len x r false
    unfold putF
    split
    · simp only [List.length_append, List.length_cons, h1]
      split <;> simp <;> omega
    · simp only [List.length_cons]; omega
where putF_true (x : Int) : ∀ (a : List Int), (putF x a true).length = a.length
  | [] => by simp [putF]
  | y :: r => by simp [putF, putF_true x r]
theorem putF_end {x : Int} {a : List Int} {k : Nat} (h : a.length ≤ k) (b : Bool) : putF x (a.drop k) b = if b = true then [] else [x] := by
  rw [List.drop_of_length_le h, putF]
theorem putF_on {x y : Int} {a : List Int} {k : Nat} (hy : a[k]? = some y) : putF x (a.drop k) true = y :: putF x (a.drop (k + 1)) true := by
  rw [drop_at hy, putF]
theorem putF_low {x y : Int} {a : List Int} {k : Nat} (hy : a[k]? = some y) (h : ¬ x ≤ y) : putF x (a.drop k) false = y :: putF x (a.drop (k + 1)) false := by
  rw [drop_at hy, putF, if_neg h]
theorem putF_same {x y : Int} {a : List Int} {k : Nat} (hy : a[k]? = some y) (h : x ≤ y) (h2 : ¬ x < y) : putF x (a.drop k) false = y :: putF x (a.drop (k + 1)) true := by
  rw [drop_at hy, putF, if_pos h, if_neg h2]; rfl
theorem putF_new {x y : Int} {a : List Int} {k : Nat} (hy : a[k]? = some y) (h2 : x < y) : putF x (a.drop k) false = x :: y :: putF x (a.drop (k + 1)) true := by
  rw [drop_at hy, putF, if_pos (by omega), if_pos h2]; rfl
set_option maxHeartbeats 8000000 in
theorem c_spec_l00Put (a : List Int) (x0 : Int) (hl : a.length ≤ 100000) : FnC Tryz.prog 187 G0 0 [] [.sl 1 (a.map encI), .int .i64 x0] (fun d os => d = .sl 1 ((putF x0 a false).map encI) ∧ os = []) := by
  refine fn_rule Tryz.func187 rfl (by decide +kernel) rfl (fun w0 F0 lent β0 => ?_)
  repeat' (first | refine sC ?_ | ((with_reducible refine isAwp ?_); first | (refine sS ?_; intro Q' hn he hr) | refine sA ?_) | (refine sH ?_; clear hn he hr Q') | ((conv => whnf); refine sK ?_))
  refine loop_env3 (fun (k : Nat) (b : Bool) (out : List Int) => [(0,.sl 1 (a.map encI)),(1,.int .i64 x0),(5,.h 0),(6,.bool b),(7,.int .i64 k)]) (fun _ _ out => [.row 2 1 (out.map encI)]) (fun k b out => k ≤ a.length ∧ out ++ putF x0 (a.drop k) b = putF x0 a false) (fun k _ _ => a.length - k) 0 false [] ⟨by omega, rfl⟩ (by refine weak_to rfl rfl rfl ?_; ((repeat' (first | exact trivial | refine And.intro ?_ ?_)) <;> (first | rfl | (conv => rhs; whnf) <;> (first | rfl | (refine congrArg (D.int _) ?_; omega))))) (fun k b out hk Q' hn he hr => ?_)
  obtain ⟨hk1, hk3⟩ := hk
  have hk2 : out.length ≤ 100001 := by
    have h1 := congrArg List.length hk3
    have h2 := putF_len x0 a false
    rw [List.length_append] at h1
    omega
  by_cases hkl : k < a.length
  · obtain ⟨y, hy0⟩ : ∃ y, a[k]? = some y := ⟨_, List.getElem?_eq_getElem hkl⟩
    cases b with
    | false =>
      repeat' (first | refine sC ?_ | ((with_reducible refine isAwp ?_); first | (refine sS ?_; intro Q' hn he hr) | refine sA ?_) | (refine sH ?_; clear hn he hr Q') | ((conv => whnf); first | refine sK ?_ | (refine sB ?_; repeat' (first | refine sb0 ?_ | (refine sb2 ?_ ?_ <;> intro hb <;> try exact cls))) | (refine ElemS.the hy0 ?_) | refine sP ?_ | (refine sL ?_; intro hlen)))
      all_goals first
        | exact ⟨k + 1, true, out ++ [x0] ++ [y], ⟨by omega, by rw [← hk3, putF_new hy0 (by omega)]; simp⟩, by omega, (by refine weak_to rfl rfl (by simp only [List.map_append]; rfl) ?_; ((repeat' (first | exact trivial | refine And.intro ?_ ?_)) <;> (first | rfl | (conv => rhs; whnf) <;> (first | rfl | (refine congrArg (D.int _) ?_; omega)))))⟩
        | exact ⟨k + 1, true, out ++ [y], ⟨by omega, by rw [← hk3, putF_same hy0 (by omega) (by omega)]; simp⟩, by omega, (by refine weak_to rfl rfl (by simp only [List.map_append]; rfl) ?_; ((repeat' (first | exact trivial | refine And.intro ?_ ?_)) <;> (first | rfl | (conv => rhs; whnf) <;> (first | rfl | (refine congrArg (D.int _) ?_; omega)))))⟩
        | exact ⟨k + 1, false, out ++ [y], ⟨by omega, by rw [← hk3, putF_low hy0 (by omega)]; simp⟩, by omega, (by refine weak_to rfl rfl (by simp only [List.map_append]; rfl) ?_; ((repeat' (first | exact trivial | refine And.intro ?_ ?_)) <;> (first | rfl | (conv => rhs; whnf) <;> (first | rfl | (refine congrArg (D.int _) ?_; omega)))))⟩
    | true =>
      rw [putF_on hy0] at hk3
      repeat' (first | refine sC ?_ | ((with_reducible refine isAwp ?_); first | (refine sS ?_; intro Q' hn he hr) | refine sA ?_) | (refine sH ?_; clear hn he hr Q') | ((conv => whnf); first | refine sK ?_ | (refine sB ?_; repeat' (first | refine sb0 ?_ | (refine sb2 ?_ ?_ <;> intro hb <;> try exact cls))) | (refine ElemS.the hy0 ?_) | refine sP ?_ | (refine sL ?_; intro hlen)))
      all_goals exact ⟨k + 1, true, out ++ [y], ⟨by omega, by rw [← hk3]; simp⟩, by omega, (by refine weak_to rfl rfl (by simp only [List.map_append]; rfl) ?_; ((repeat' (first | exact trivial | refine And.intro ?_ ?_)) <;> (first | rfl | (conv => rhs; whnf) <;> (first | rfl | (refine congrArg (D.int _) ?_; omega)))))⟩
  · obtain rfl : k = a.length := by omega
    rw [putF_end (Nat.le_refl _)] at hk3
    cases b with
    | false =>
      repeat' (first | refine sC ?_ | ((with_reducible refine isAwp ?_); first | (refine sS ?_; intro Q' hn he hr) | refine sA ?_) | (refine sH ?_; clear hn he hr Q') | ((conv => whnf); first | refine sK ?_ | (refine sB ?_; repeat' (first | refine sb0 ?_ | (refine sb2 ?_ ?_ <;> intro hb <;> try exact cls))) | ((with_reducible refine isRet ?_); (refine ret_freeze 0 rfl (Nat.zero_le _) ?_; refine ret_pick [] rfl rfl rfl ⟨?_, rfl⟩)) | refine sP ?_ | (refine sL ?_; intro hlen) | (refine sH ?_; clear hn he hr Q')))
      rw [← hk3, if_neg (by simp), List.map_append]
      rfl
    | true =>
      repeat' (first | refine sC ?_ | ((with_reducible refine isAwp ?_); first | (refine sS ?_; intro Q' hn he hr) | refine sA ?_) | (refine sH ?_; clear hn he hr Q') | ((conv => whnf); first | refine sK ?_ | (refine sB ?_; repeat' (first | refine sb0 ?_ | (refine sb2 ?_ ?_ <;> intro hb <;> try exact cls))) | ((with_reducible refine isRet ?_); (refine ret_freeze 0 rfl (Nat.zero_le _) ?_; refine ret_pick [] rfl rfl rfl ⟨?_, rfl⟩)) | (refine sL ?_; intro hlen) | (refine sH ?_; clear hn he hr Q')))
      rw [← hk3, if_pos rfl, List.append_nil]
      rfl
theorem c_spec_l00Put_nil (x0 : Int) : FnC Tryz.prog 187 G0 0 [] [nilV, .int .i64 x0] (fun d os => d = .sl 1 ([x0].map encI) ∧ os = []) := by
  unfold nilV
  refine fn_rule Tryz.func187 rfl (by decide +kernel) rfl (fun w0 F0 lent β0 => ?_)
  repeat' (first | refine sC ?_ | ((with_reducible refine isAwp ?_); first | (refine sS ?_; intro Q' hn he hr) | refine sA ?_) | (refine sH ?_; clear hn he hr Q') | ((conv => whnf); refine sK ?_))
  refine loop_env (fun _ : Nat => [(0,.v (.slice none 0 0)),(1,.int .i64 x0),(5,.h 0),(6,.bool false),(7,.int .i64 0)]) (fun _ => [.row 2 1 []]) (fun _ => True) (fun _ => 0) 0 trivial (by refine weak_to rfl rfl rfl ?_; ((repeat' (first | exact trivial | refine And.intro ?_ ?_)) <;> (first | rfl | (conv => rhs; whnf) <;> (first | rfl | (refine congrArg (D.int _) ?_; omega))))) (fun k hk Q' hn he hr => ?_)
  repeat' (first | refine sC ?_ | ((with_reducible refine isAwp ?_); first | (refine sS ?_; intro Q' hn he hr) | refine sA ?_) | (refine sH ?_; clear hn he hr Q') | ((conv => whnf); first | refine sK ?_ | (refine sB ?_; repeat' (first | refine sb0 ?_ | (refine sb2 ?_ ?_ <;> intro hb <;> try exact cls))) | ((with_reducible refine isRet ?_); (refine ret_freeze 0 rfl (Nat.zero_le _) ?_; refine ret_pick [] rfl rfl rfl ⟨?_, rfl⟩)) | refine sP ?_ | (refine sH ?_; clear hn he hr Q')))
  all_goals rfl
def seenD : Option (List Int) → D
  | none => nilV
  | some l => .sl 1 (l.map encI)
def seenN : Option (List Int) → Nat
  | none => 0
  | some l => l.length
set_option maxHeartbeats 16000000 in
theorem c_spec_l15Do (S : List TLine) (b : Int) (hv : scrsB S = true) (hb0 : 1 ≤ b ∧ b ≤ 20000) : FnC Tryz.prog 137 G0 0 [] [.sl 3 (S.map encLine), .int .i64 b] (fun d os => d = .tup [.junk, .int .i64 (runC S b)] ∧ os = []) := by
  have hv2 : inB b 1 20000 = true := by simp [inB]; omega
  have hsl := scrs_len hv
  refine fn_rule Tryz.func137 rfl (by decide +kernel) rfl (fun w0 F0 lent β0 => ?_)
  repeat' (first | refine sC ?_ | ((with_reducible refine isAwp ?_); first | (refine sS ?_; intro Q' hn he hr) | refine sA ?_) | (refine sH ?_; clear hn he hr Q') | ((conv => whnf); first | refine sK ?_ | (refine sB ?_; repeat' (refine sb2 ?_ ?_ <;> intro hb <;> try exact cls)) | ((with_reducible refine isCall ?_); first | (refine call_pure (c_spec_l15Ok S) rfl rfl ?_) | (refine call_pure (c_l00In _ _ _) rfl rfl ?_)) | refine sP ?_ | (refine sL ?_; intro hlen)))
  refine loop_env6 (fun (n p : Nat) (t : Int) (ev : List (Int × List UInt8)) (sn : Option (List Int)) (c : List Int) => [(0,.sl 3 (S.map encLine)),(1,.int .i64 b),(6,.hp 0 0),(7,.h 1),(8,.int .i64 p)]) (fun n p t ev sn c => [.box [.h 2, .int .i64 t, .int .i64 (b - n), seenD sn], .row 2 1 (c.map encI), .row 240 2 (ev.map encEv)]) (fun n p t ev sn c => runF S n p t ev.length c = runC S b ∧ (n : Int) ≤ b ∧ (0 ≤ t ∧ t ≤ 7200000) ∧ (ev.length ≤ 64 ∧ (seenN sn : Int) ≤ b - n ∧ c.length = S.length ∧ goodC c ∧ p ≤ S.length)) (fun n _ _ _ _ _ => n) b.toNat 0 0 [] none (List.replicate S.length 0) ⟨rfl, by omega, by omega, by simp, by show ((0 : Nat) : Int) ≤ _; omega, by simp, goodC_zero _, by omega⟩ (by refine Weak.trans (weak_adopt_box 0 0 240 2 rfl rfl rfl rfl) (weak_to rfl rfl ?_ ?_); (simp only [List.map_replicate]; rw [show b - ((b.toNat : Nat) : Int) = 0 by omega]; rfl); exact ⟨rfl, rfl, rfl, rfl, rfl, trivial⟩) (fun n p t ev sn c hk Q' hn he hr => ?_)
  obtain ⟨hk1, hk2, hk3, hk4, hk5, hk6, hk7, hk8⟩ := hk
  by_cases hpl : p < S.length
  · obtain ⟨ln, hx0⟩ : ∃ ln, S[p]? = some ln := ⟨_, List.getElem?_eq_getElem hpl⟩
    obtain ⟨v, hcv⟩ : ∃ v, c[p]? = some v := ⟨_, List.getElem?_eq_getElem (by omega)⟩
    obtain ⟨hl2, hl4⟩ := scrs_line hv hx0
    have hcb := hk7 _ _ hcv
    have hix := idxQ_range (isLab ln.fName) S
    cases n with
    | zero =>
      rw [runF_full hpl] at hk1
      repeat' (first | refine sC ?_ | ((with_reducible refine isAwp ?_); first | (refine sS ?_; intro Q' hn he hr) | refine sA ?_) | (refine sH ?_; clear hn he hr Q') | ((conv => whnf); first | refine sK ?_ | (refine sB ?_; repeat' (refine sb2 ?_ ?_ <;> intro hb <;> try exact cls)) | ((with_reducible refine isRet ?_); (refine ret_junk1 ?_; refine ret_pick [] rfl rfl rfl ⟨?_, rfl⟩)) | refine sP ?_ | (refine sL ?_; intro hlen)))
      all_goals first
        | (exfalso; omega)
        | (rw [← hk1]; rfl)
        | trace_state
    | succ n =>
      have hst : b - (n : Int) = b - ((n + 1 : Nat) : Int) + 1 := by omega
      cases sn with
      | none =>
        repeat' (first | refine sC ?_ | ((with_reducible refine isAwp ?_); first | (refine sS ?_; intro Q' hn he hr) | refine sA ?_) | (refine sH ?_; clear hn he hr Q') | refine sO ?_ | ((conv => whnf); first | refine sK ?_ | (refine sB ?_; repeat' (refine sb2 ?_ ?_ <;> intro hb <;> try exact cls)) | (refine draw_pre 13 [0] (by decide +kernel) (by decide +kernel) (by decide +kernel) ?_) | (refine ArithS.to (p : Int) (by omega) (wrap64 (by omega)) ?_) | (refine ElemS.the hx0 ?_) | (refine ElemS.the hcv ?_) | ((with_reducible refine isCall ?_); first | (refine call_pure (c_spec_l15Label S ln.fName) rfl rfl ?_) | (refine call_pure (c_spec_l00Put_nil _) rfl rfl ?_)) | ((with_reducible refine isRet ?_); (refine ret_junk1 ?_; refine ret_pick [] rfl rfl rfl ⟨?_, rfl⟩)) | refine sP ?_ | (refine sL ?_; intro hlen) | refine sD ?_))
        all_goals first
          | (exfalso; omega)
          | (rw [← hk1, runF_late hx0 (by assumption) (by omega)]; rfl)
          | (rw [← hk1, runF_most hx0 (by assumption) (by omega)]; rfl)
          | (rw [← hk1, runF_stop hx0 (by assumption)]; rfl)
          | exact ⟨n, p + 1, t + ln.fValue, ev, some [(p : Int)], c, ⟨by rw [← hk1, runF_wait hx0 (by assumption) (by omega)], by omega, by omega, hk4, (by show ((1 : Nat) : Int) ≤ _; omega), hk6, hk7, by omega⟩, by omega, (by refine weak_to rfl rfl (by rw [hst]; rfl) ?_; ((repeat' (first | exact trivial | refine And.intro ?_ ?_)) <;> (first | rfl | (conv => rhs; whnf) <;> (first | rfl | (refine congrArg (D.int _) ?_; omega)))))⟩
          | exact ⟨n, p + 1, t, ev ++ [(t, ln.fName)], some [(p : Int)], c, ⟨by rw [← hk1, runF_fire hx0 (by assumption) (by omega), List.length_append]; rfl, by omega, by omega, by rw [List.length_append]; simp; omega, (by show ((1 : Nat) : Int) ≤ _; omega), hk6, hk7, by omega⟩, by omega, (by refine weak_to rfl rfl (by rw [hst, List.map_append]; rfl) ?_; ((repeat' (first | exact trivial | refine And.intro ?_ ?_)) <;> (first | rfl | (conv => rhs; whnf) <;> (first | rfl | (refine congrArg (D.int _) ?_; omega)))))⟩
          | exact ⟨n, (idxQ (isLab ln.fName) S).toNat, t, ev, some [(p : Int)], c.set p (v + 1), ⟨by rw [← hk1, runF_jump hx0 (by assumption) hcv (by omega)], by omega, by omega, hk4, (by show ((1 : Nat) : Int) ≤ _; omega), by rw [List.length_set]; exact hk6, goodC_set hk7 _ (by have := hl4 (by assumption); omega), by omega⟩, by omega, (by refine weak_to rfl rfl (by rw [hst, List.map_set]; rfl) ?_; ((repeat' (first | exact trivial | refine And.intro ?_ ?_)) <;> (first | rfl | (conv => rhs; whnf) <;> (first | rfl | (refine congrArg (D.int _) ?_; omega)))))⟩
          | exact ⟨n, p + 1, t, ev, some [(p : Int)], c.set p 0, ⟨by rw [← hk1, runF_pass hx0 (by assumption) hcv (by omega)], by omega, by omega, hk4, (by show ((1 : Nat) : Int) ≤ _; omega), by rw [List.length_set]; exact hk6, goodC_set hk7 _ (by omega), by omega⟩, by omega, (by refine weak_to rfl rfl (by rw [hst, List.map_set]; rfl) ?_; ((repeat' (first | exact trivial | refine And.intro ?_ ?_)) <;> (first | rfl | (conv => rhs; whnf) <;> (first | rfl | (refine congrArg (D.int _) ?_; omega)))))⟩
          | exact ⟨n, p + 1, t, ev, some [(p : Int)], c, ⟨by rw [← hk1, runF_label hx0 (by assumption) (by assumption) (by assumption) (by assumption)], by omega, by omega, hk4, (by show ((1 : Nat) : Int) ≤ _; omega), hk6, hk7, by omega⟩, by omega, (by refine weak_to rfl rfl (by rw [hst]; rfl) ?_; ((repeat' (first | exact trivial | refine And.intro ?_ ?_)) <;> (first | rfl | (conv => rhs; whnf) <;> (first | rfl | (refine congrArg (D.int _) ?_; omega)))))⟩
          | (rw [runF_stop hx0 (by assumption)] at hk1; exact ⟨n, S.length, t, ev, some [(p : Int)], c, ⟨by rw [← hk1]; exact runF_end (by omega), by omega, by omega, hk4, (by show ((1 : Nat) : Int) ≤ _; omega), hk6, hk7, by omega⟩, by omega, (by refine weak_to rfl rfl (by rw [hst]; rfl) ?_; ((repeat' (first | exact trivial | refine And.intro ?_ ?_)) <;> (first | rfl | (conv => rhs; whnf) <;> (first | rfl | (refine congrArg (D.int _) ?_; omega)))))⟩)
          | skip
      | some l =>
        have hl0 : (l.length : Int) ≤ b - ((n + 1 : Nat) : Int) := hk5
        have hpl2 := putF_len (p : Int) l false
        repeat' (first | refine sC ?_ | ((with_reducible refine isAwp ?_); first | (refine sS ?_; intro Q' hn he hr) | refine sA ?_) | (refine sH ?_; clear hn he hr Q') | refine sO ?_ | ((conv => whnf); first | refine sK ?_ | (refine sB ?_; repeat' (refine sb2 ?_ ?_ <;> intro hb <;> try exact cls)) | (refine draw_pre 13 [0] (by decide +kernel) (by decide +kernel) (by decide +kernel) ?_) | (refine ArithS.to (p : Int) (by omega) (wrap64 (by omega)) ?_) | (refine ElemS.the hx0 ?_) | (refine ElemS.the hcv ?_) | ((with_reducible refine isCall ?_); first | (refine call_pure (c_spec_l15Label S ln.fName) rfl rfl ?_) | (refine call_pure (c_spec_l00Put l _ (by omega)) rfl rfl ?_)) | ((with_reducible refine isRet ?_); (refine ret_junk1 ?_; refine ret_pick [] rfl rfl rfl ⟨?_, rfl⟩)) | refine sP ?_ | (refine sL ?_; intro hlen) | refine sD ?_))
        all_goals first
          | (exfalso; omega)
          | (rw [← hk1, runF_late hx0 (by assumption) (by omega)]; rfl)
          | (rw [← hk1, runF_most hx0 (by assumption) (by omega)]; rfl)
          | (rw [← hk1, runF_stop hx0 (by assumption)]; rfl)
          | exact ⟨n, p + 1, t + ln.fValue, ev, some (putF (p : Int) l false), c, ⟨by rw [← hk1, runF_wait hx0 (by assumption) (by omega)], by omega, by omega, hk4, (by show ((putF (p : Int) l false).length : Int) ≤ _; omega), hk6, hk7, by omega⟩, by omega, (by refine weak_to rfl rfl (by rw [hst]; rfl) ?_; ((repeat' (first | exact trivial | refine And.intro ?_ ?_)) <;> (first | rfl | (conv => rhs; whnf) <;> (first | rfl | (refine congrArg (D.int _) ?_; omega)))))⟩
          | exact ⟨n, p + 1, t, ev ++ [(t, ln.fName)], some (putF (p : Int) l false), c, ⟨by rw [← hk1, runF_fire hx0 (by assumption) (by omega), List.length_append]; rfl, by omega, by omega, by rw [List.length_append]; simp; omega, (by show ((putF (p : Int) l false).length : Int) ≤ _; omega), hk6, hk7, by omega⟩, by omega, (by refine weak_to rfl rfl (by rw [hst, List.map_append]; rfl) ?_; ((repeat' (first | exact trivial | refine And.intro ?_ ?_)) <;> (first | rfl | (conv => rhs; whnf) <;> (first | rfl | (refine congrArg (D.int _) ?_; omega)))))⟩
          | exact ⟨n, (idxQ (isLab ln.fName) S).toNat, t, ev, some (putF (p : Int) l false), c.set p (v + 1), ⟨by rw [← hk1, runF_jump hx0 (by assumption) hcv (by omega)], by omega, by omega, hk4, (by show ((putF (p : Int) l false).length : Int) ≤ _; omega), by rw [List.length_set]; exact hk6, goodC_set hk7 _ (by have := hl4 (by assumption); omega), by omega⟩, by omega, (by refine weak_to rfl rfl (by rw [hst, List.map_set]; rfl) ?_; ((repeat' (first | exact trivial | refine And.intro ?_ ?_)) <;> (first | rfl | (conv => rhs; whnf) <;> (first | rfl | (refine congrArg (D.int _) ?_; omega)))))⟩
          | exact ⟨n, p + 1, t, ev, some (putF (p : Int) l false), c.set p 0, ⟨by rw [← hk1, runF_pass hx0 (by assumption) hcv (by omega)], by omega, by omega, hk4, (by show ((putF (p : Int) l false).length : Int) ≤ _; omega), by rw [List.length_set]; exact hk6, goodC_set hk7 _ (by omega), by omega⟩, by omega, (by refine weak_to rfl rfl (by rw [hst, List.map_set]; rfl) ?_; ((repeat' (first | exact trivial | refine And.intro ?_ ?_)) <;> (first | rfl | (conv => rhs; whnf) <;> (first | rfl | (refine congrArg (D.int _) ?_; omega)))))⟩
          | exact ⟨n, p + 1, t, ev, some (putF (p : Int) l false), c, ⟨by rw [← hk1, runF_label hx0 (by assumption) (by assumption) (by assumption) (by assumption)], by omega, by omega, hk4, (by show ((putF (p : Int) l false).length : Int) ≤ _; omega), hk6, hk7, by omega⟩, by omega, (by refine weak_to rfl rfl (by rw [hst]; rfl) ?_; ((repeat' (first | exact trivial | refine And.intro ?_ ?_)) <;> (first | rfl | (conv => rhs; whnf) <;> (first | rfl | (refine congrArg (D.int _) ?_; omega)))))⟩
          | (rw [runF_stop hx0 (by assumption)] at hk1; exact ⟨n, S.length, t, ev, some (putF (p : Int) l false), c, ⟨by rw [← hk1]; exact runF_end (by omega), by omega, by omega, hk4, (by show ((putF (p : Int) l false).length : Int) ≤ _; omega), hk6, hk7, by omega⟩, by omega, (by refine weak_to rfl rfl (by rw [hst]; rfl) ?_; ((repeat' (first | exact trivial | refine And.intro ?_ ?_)) <;> (first | rfl | (conv => rhs; whnf) <;> (first | rfl | (refine congrArg (D.int _) ?_; omega)))))⟩)
          | skip
  · rw [runF_end hpl] at hk1
    repeat' (first | refine sC ?_ | ((with_reducible refine isAwp ?_); first | (refine sS ?_; intro Q' hn he hr) | refine sA ?_) | (refine sH ?_; clear hn he hr Q') | ((conv => whnf); first | refine sK ?_ | (refine sB ?_; repeat' (refine sb2 ?_ ?_ <;> intro hb <;> try exact cls)) | ((with_reducible refine isRet ?_); (refine ret_junk1 ?_; refine ret_pick [] rfl rfl rfl ⟨?_, rfl⟩)) | (refine sL ?_; intro hlen) | (refine sH ?_; clear hn he hr Q')))
    rw [← hk1]
    rfl
end Go.Eng
