/-
  The engine: an object whose slice is cut differently: cap (its capacity becomes known), trim (a part from the start becomes the row).
  No conditions.
-/
import Derived.Test.YthhmhmbdfahkjaaEngK
import Derived.Lib.SliceRun
namespace Go.Eng
open Go Go.RowKit

def up1 (f : D → D) : D → D
  | .agg cs => .agg (cs.map f)
  | .clo g cs => .clo g (cs.map f)
  | .tup _ => .junk
  | d => f d
def upT (f : D → D) : D → D
  | .tup ds => .tup (ds.map (up1 f))
  | d => up1 f d
def upE (f : D → D) : List (Nat × D) → List (Nat × D)
  | [] => []
  | (k, d) :: r => (k, upT f d) :: upE f r
def upO (f : D → D) : Obj → Obj
  | .box cs => .box (cs.map (up1 f))
  | .frame vs e => .frame vs (upE f e)
  | ob => ob
theorem upO_live {f : D → D} {o : Obj} : (upO f o).live ↔ o.live := by cases o <;> simp [upO, Obj.live]
theorem upT_junk {f : D → D} (hj : f .junk = .junk) : upT f .junk = .junk := hj
theorem look_upE {f : D → D} (hj : f .junk = .junk) (e : List (Nat × D)) (i : Nat) : look (upE f e) i = upT f (look e i) := by
  induction e with
  | nil => exact hj.symm
  | cons x r ih =>
    obtain ⟨k, d⟩ := x
    simp only [upE, look]
    cases Nat.beq i k <;> simp [ih]

section
variable {F F' : Nat → Prop} {β β' : Nat → Option Value} {w : World} {f : D → D} (hj : f .junk = .junk) (hf : ∀ v d, Rep F β w v d → Rep F' β' w v (f d))
include hj hf
theorem Rep.up1 {v : Value} {d : D} (h : Rep F β w v d) : Rep F' β' w v (Eng.up1 f d) := by
  cases d with
  | agg ds =>
    obtain ⟨cs, rfl, hl, h1, hr⟩ := h.agg_inv
    refine .agg _ _ (by simp [hl]) h1 (fun i hi => ?_)
    rw [getD_map_junk _ hj]
    exact hf _ _ (hr i (by simpa using hi))
  | clo g ds =>
    obtain ⟨cs, rfl, hl, hr⟩ := h.clo_inv
    refine .clo _ _ _ (by simp [hl]) (fun i hi => ?_)
    rw [getD_map_junk _ hj]
    exact hf _ _ (hr i (by simpa using hi))
  | tup ds => exact .ro _ _ (.junk _)
  | _ => exact hf _ _ h
theorem Rep.upT {v : Value} {d : D} (h : Rep F β w v d) : Rep F' β' w v (Eng.upT f d) := by
  cases d with
  | tup ds =>
    obtain ⟨cs, rfl, hl, hr⟩ := h.tup_inv
    refine .tup _ _ (by simp [hl]) (fun i hi => ?_)
    rw [getD_map_junk (Eng.up1 f) hj]
    exact (hr i (by simpa using hi)).up1 hj hf
  | _ => exact h.up1 hj hf
theorem Own.up {o : Obj} {x : Value} (hF : ∀ b, F b → F' b) (h : Own F β w o x) : Own F' β' w (upO f o) x := by
  cases o with
  | dead => trivial
  | row e s es =>
    obtain ⟨h1, h2, xs, h3, h4, h5⟩ := h
    exact ⟨h1, h2, xs, h3, h4, fun i j hi hj => (h5 i j hi hj).mono (fun b hb => ⟨hF b hb, rfl⟩)⟩
  | box cs =>
    obtain ⟨b, c, T, rfl, hg, hs, h1, hr⟩ := h
    refine ⟨b, c, T, rfl, hg, by simp [hs], h1, fun j hj' => ?_⟩
    rw [getD_map_junk (Eng.up1 f) hj]
    exact (hr j (by simpa using hj')).up1 hj hf
  | frame vs e =>
    obtain ⟨rfl, hr⟩ := h
    refine ⟨rfl, fun i => ?_⟩
    rw [look_upE hj]
    exact (hr i).upT hj hf
  | blk e s cs c =>
    obtain ⟨g, cur, rfl, hg, h2, h3, h4, h5, h6⟩ := h
    exact ⟨g, cur, rfl, hg, h2, h3, h4, h5, fun i j hi hj => ⟨(h6 i j hi hj).1, (h6 i j hi hj).2.mono (fun b hb => ⟨hF b hb, rfl⟩)⟩⟩
end

def St.swap (st : St) (o : Nat) (ob : Obj) (f : D → D) : St := ⟨upE f st.env, st.nt, (st.objs.map (upO f)).set o ob, st.g, st.pin⟩

theorem Rel.swap {X : Ctx} {st : St} {β : Nat → Option Value} {a : Act} {w : World} (h : Rel X st β a w) {o : Nat} {x x' : Value} (hx : β o = some x)
    (hx' : ∀ b, blk x' = some b → blk x = some b) (hpin : st.pin ≤ o) (ob : Obj) (hob : ob.live) (f : D → D) (hj : f .junk = .junk)
    (hown : ∀ F' β', (∀ b, FX X st β w b → F' b) → Own F' β' w ob x')
    (hf : ∀ F' β', (∀ b, FX X st β w b → F' b) → (∀ i y, i ≠ o → β i = some y → β' i = some y) → β' o = some x' → ∀ v d, Rep (FX X st β w) β w v d → Rep F' β' w v (f d)) :
    ∃ β', Rel X (st.swap o ob f) β' a w ∧ β' o = some x' ∧ ∀ v d, Rep (FX X st β w) β w v d → Rep (FX X (st.swap o ob f) β' w) β' w v (upT f d) := by
  obtain ⟨hon, hol⟩ := h.dom o x hx
  have hon' : o < st.objs.length := hon
  let st' : St := st.swap o ob f
  let β' : Nat → Option Value := fun i => if i = o then some x' else β i
  have hn : st'.n = st.n := by simp [st', St.n, St.swap]
  have hso : st'.obj o = ob := by simp [st', St.obj, St.swap, List.getD_eq_getElem?_getD, hon']
  have hsn : ∀ i, i ≠ o → st'.obj i = upO f (st.obj i) := by
    intro i hi
    simp only [st', St.obj, St.swap, List.getD_eq_getElem?_getD, List.getElem?_set_ne (Ne.symm hi), List.getElem?_map]
    cases st.objs[i]? <;> simp [upO]
  have hlive : ∀ i, (st'.obj i).live ↔ (st.obj i).live := by
    intro i
    by_cases e : i = o
    · subst e; rw [hso]; exact ⟨fun _ => hol, fun _ => hob⟩
    · rw [hsn i e, upO_live]
  have hβo : β' o = some x' := by simp [β']
  have hβ : ∀ i y, i ≠ o → β i = some y → β' i = some y := by
    intro i y e hy
    simp only [β', if_neg e]
    exact hy
  have hF : ∀ b, FX X st β w b → FX X st' β' w b := by
    intro b hb
    refine ⟨hb.1, hb.2.1, fun i hi hl y hy => ?_⟩
    rw [hn] at hi
    by_cases e : i = o
    · simp only [β', if_pos e] at hy
      cases hy
      exact fun hbx => hb.2.2 o hon hol x hx (hx' b hbx)
    · simp only [β', if_neg e] at hy
      exact hb.2.2 i hi ((hlive i).1 hl) y hy
  have hff := hf (FX X st' β' w) β' hF hβ hβo
  refine ⟨β', ⟨h.defers, h.size, fun i => ?_, fun i y hy => ?_, fun i hi hl => ?_, fun i i' y y' b hy hy' hb hb' => ?_, fun i y b hy hb => ?_, h.kept, fun g cs hgl => (h.glob g cs hgl).mono (fun b hb => ⟨hF b hb, rfl⟩), fun i hi => ?_, by rw [hn]; exact h.pinned⟩, hβo, fun v d hv => hv.upT hj hff⟩
  · show Rep _ β' w _ (look (upE f st.env) i)
    rw [look_upE hj]
    exact (h.tmps i).upT hj hff
  · show i < st'.n ∧ (st'.obj i).live
    rw [hn, hlive]
    by_cases e : i = o
    · subst e; exact ⟨hon, hol⟩
    · simp only [β', if_neg e] at hy
      exact h.dom i y hy
  · by_cases e : i = o
    · subst e
      refine ⟨x', hβo, ?_⟩
      show Own _ β' w (st'.obj i) x'
      rw [hso]
      exact hown _ _ hF
    · have hi' : i < st'.n := hi
      obtain ⟨y, hy, hw⟩ := h.own i (hn ▸ hi') ((hlive i).1 hl)
      refine ⟨y, hβ i y e hy, ?_⟩
      show Own _ β' w (st'.obj i) y
      rw [hsn i e]
      exact hw.up hj hff hF
  · by_cases e : i = o <;> by_cases e' : i' = o
    · rw [e, e']
    · simp only [β', if_pos e] at hy
      simp only [β', if_neg e'] at hy'
      cases hy
      rw [e]
      exact h.sep o i' x y' b hx hy' (hx' b hb) hb'
    · simp only [β', if_neg e] at hy
      simp only [β', if_pos e'] at hy'
      cases hy'
      rw [e']
      exact h.sep i o y x b hy hx hb (hx' b hb')
    · simp only [β', if_neg e] at hy
      simp only [β', if_neg e'] at hy'
      exact h.sep i i' y y' b hy hy' hb hb'
  · by_cases e : i = o
    · simp only [β', if_pos e] at hy
      cases hy
      exact h.low o x b hx (hx' b hb)
    · simp only [β', if_neg e] at hy
      exact h.low i y b hy hb
  · have hi' : i < st.pin := hi
    simp only [β', if_neg (show i ≠ o by omega)]
    exact h.stay i hi'

/-! ### Strictly -/
def upEK (f : D → D) : List (Nat × D) → (List (Nat × D) → Prop) → Prop
  | [], K => K []
  | (k, d) :: r, K => force (upT f d) fun d' => upEK f r fun l => K ((k, d') :: l)
theorem upEK_out {f : D → D} : ∀ {e : List (Nat × D)} {K : List (Nat × D) → Prop}, upEK f e K → K (upE f e)
  | [], _, h => h
  | (k, d) :: r, K, h => upEK_out (e := r) (K := fun l => K ((k, upT f d) :: l)) (force_out h)
def upOK (f : D → D) : List Obj → (List Obj → Prop) → Prop
  | [], K => K []
  | ob :: r, K => forceO (upO f ob) fun ob' => upOK f r fun l => K (ob' :: l)
theorem upOK_out {f : D → D} : ∀ {e : List Obj} {K : List Obj → Prop}, upOK f e K → K (e.map (upO f))
  | [], _, h => h
  | ob :: r, K, h => upOK_out (e := r) (K := fun l => K (upO f ob :: l)) (forceO_out h)
def swapK (st : St) (o : Nat) (ob : Obj) (f : D → D) (K : St → Prop) : Prop :=
  match st with
  | ⟨env, nt, objs, g, pin⟩ => upEK f env fun e => upOK f objs fun l => setOK l o ob fun l => K ⟨e, nt, l, g, pin⟩
theorem swapK_out {st : St} {o : Nat} {ob : Obj} {f : D → D} {K : St → Prop} (h : swapK st o ob f K) : K (st.swap o ob f) := by
  obtain ⟨env, nt, objs, g, pin⟩ := st
  exact setOK_out (upOK_out (upEK_out h))

/-! ### cap -/
@[irreducible] def CapS (n : Nat) (K : Nat → Prop) : Prop := ∀ c : Nat, n ≤ c → c ≤ maxLen → K c
theorem CapS.mk {n : Nat} {K : Nat → Prop} (h : ∀ c : Nat, n ≤ c → c ≤ maxLen → K c) : CapS n K := by unfold CapS; exact h
theorem CapS.out {n : Nat} {K : Nat → Prop} (h : CapS n K) : ∀ c : Nat, n ≤ c → c ≤ maxLen → K c := by unfold CapS at h; exact h
def cap0 (o s n : Nat) : D → D
  | .h p => bif Nat.beq p o then .hs p s 0 n else .h p
  | .hp p k => bif Nat.beq p o then .junk else .hp p k
  | .hr p s' i k => bif Nat.beq p o then .junk else .hr p s' i k
  | .hs p s' a b => bif Nat.beq p o then .junk else .hs p s' a b
  | .agg _ => .junk
  | .tup _ => .junk
  | .clo _ _ => .junk
  | d => d
def capD (st : St) (dst : Option Nat) (b : D) (K : St → Prop) : Prop :=
  match b with
  | .h o => match st.obj o with
    | .row e s es => bif Nat.blt 0 s && Nat.ble st.pin o then NeedS (0 < es.length) (CapS es.length fun c => swapK st o (.blk e s es c) (cap0 o s es.length) fun st => putK st dst (.int .i64 c) K) else False
    | _ => False
  | _ => False

section
variable {X : Ctx} {st : St} {β : Nat → Option Value} {a : Act} {w : World} {K : St → Prop} {Q : Exit → Act → World → Prop}

theorem cap0_rep {F F' : Nat → Prop} {β β' : Nat → Option Value} {w : World} {o s n g c : Nat} (hF : ∀ b, F b → F' b) (hx : β o = some (.slice (some ⟨g, 0, none⟩) n c)) (hnc : n ≤ c) (hβ : ∀ i y, i ≠ o → β i = some y → β' i = some y) (ho : β' o = some (.slice (some ⟨g, 0, none⟩) c c)) {v : Value} {d : D} (h : Rep F β w v d) :
    Rep F' β' w v (cap0 o s n d) := by
  cases h with
  | ro x d h =>
    cases d <;> simp only [Eng.cap0] <;> first | exact .ro _ _ (.junk _) | exact .ro _ _ (h.mono (fun b hb => ⟨hF b hb, rfl⟩)) | cases h
  | h p y h =>
    simp only [Eng.cap0]
    cases hp : Nat.beq p o with
    | true =>
      have := Nat.eq_of_beq_eq_true hp
      subst this
      rw [hx] at h
      cases h
      exact .hs _ _ _ _ _ _ ho ⟨_, _, _, some ⟨g, 0, none⟩, rfl, Nat.zero_le _, hnc, Nat.le_refl _, rfl, fun _ => by simp [Addr.add]⟩
    | false => exact .h _ _ (hβ _ _ (fun e => by subst e; simp at hp) h)
  | hp p off b y h hb =>
    simp only [Eng.cap0]
    cases hp : Nat.beq p o with
    | true => exact .ro _ _ (.junk _)
    | false => exact .hp _ _ _ _ (hβ _ _ (fun e => by subst e; simp at hp) h) hb
  | hr p s i off b y h hb =>
    simp only [Eng.cap0]
    cases hp : Nat.beq p o with
    | true => exact .ro _ _ (.junk _)
    | false => exact .hr _ _ _ _ _ _ (hβ _ _ (fun e => by subst e; simp at hp) h) hb
  | hs p s a b y v h hv =>
    simp only [Eng.cap0]
    cases hp : Nat.beq p o with
    | true => exact .ro _ _ (.junk _)
    | false => exact .hs _ _ _ _ _ _ (hβ _ _ (fun e => by subst e; simp at hp) h) hv
  | agg => exact .ro _ _ (.junk _)
  | tup => exact .ro _ _ (.junk _)
  | clo => exact .ro _ _ (.junk _)

theorem cap_sound {o : Oper} {t e : TypeId} {s : Operand} (ht : X.P.underlying t = some (.slice e)) (ho : o.op = .call { callee := .builtin .cap, args := #[s], argTypes := #[t] }) (h : capD st o.dst (st.ev s) K) (hr : Rel X st β a w) :
    o.wp X.P a w (PostR X K) Q := by
  unfold capD at h
  split at h
  · rename_i oo hs
    split at h
    · rename_i e' sz es hob
      cases hb : (Nat.blt 0 sz && Nat.ble st.pin oo) with
      | false => rw [hb] at h; exact h.elim
      | true =>
        rw [hb] at h
        obtain ⟨g1, g2⟩ := and_true' hb
        have g1 : 0 < sz := by simpa [Nat.blt_eq] using g1
        have g2 : st.pin ≤ oo := by simpa using g2
        simp only [cond_true] at h
        obtain ⟨h0, h⟩ := NeedS.out h
        have hes := hr.ev s
        rw [hs] at hes
        have hβ := hes.h_inv
        have hrow := hr.row hob hβ
        obtain ⟨g, c, hv, hnc, hblk⟩ := cap_row g1 hrow h0
        have hcm : c ≤ maxLen := by obtain ⟨_, _, _, _, _, h, _⟩ := hblk; exact h
        have hk := putK_out (swapK_out (CapS.out h c hnc hcm))
        rw [hv] at hβ
        obtain ⟨β', hn, _, _⟩ := hr.swap (x' := .slice (some ⟨g, 0, none⟩) c c) hβ (fun b hb => hb) g2 (.blk e' sz es c) trivial (cap0 oo sz es.length) rfl
          (fun F' β' hF => by
            obtain ⟨g', cur, k1, k2, k3, k4, k5, k6, k7⟩ := hblk
            exact ⟨g', cur, k1, k2, k3, k4, k5, k6, fun i j hi hj => ⟨(k7 i j hi hj).1, (k7 i j hi hj).2.mono (fun b hb => ⟨hF b hb, rfl⟩)⟩⟩)
          (fun F' β' hF hb1 hb2 v d hvd => cap0_rep hF hβ hnc hb1 hb2 hvd)
        refine wp_value (v := .int .i64 c) (w' := w) ?_ ⟨_, _, hk, hn.put _ (.ro _ _ (.int _ _))⟩
        simp only [execOp, ho, resolve, invoke, builtin, Sem.run_bind, Sem.run_pure, Result.andThen_ok, List.map_toArray, List.map_cons, List.map_nil, hv]
        simp [Builtin.cap_, run_underlying ht, goInt]
    · exact h.elim
  · exact h.elim

/-! ### A part from the start, taken for the row -/
def trim0 (o : Nat) : D → D := kill0 (Nat.beq o)
def trimK (d : D) (st : St) (K : D → St → Prop) : Prop :=
  match d with
  | .hs o s2 a k => match st.obj o with
    | .row e s es => bif Nat.beq s2 s && Nat.beq a 0 && Nat.blt 0 s && Nat.ble st.pin o then NeedS (k ≤ es.length) (swapK st o (.row e s (es.take k)) (trim0 o) fun st => K (.h o) st) else False
    | .blk e s es c => bif Nat.beq s2 s && Nat.beq a 0 && Nat.blt 0 s && Nat.ble st.pin o then NeedS (k ≤ es.length) (swapK st o (.row e s (es.take k)) (trim0 o) fun st => K (.h o) st) else False
    | _ => K (.hs o s2 a k) st
  | d => K d st

theorem and4 {a b c d : Bool} (h : (a && b && c && d) = true) : a = true ∧ b = true ∧ c = true ∧ d = true := by
  simp only [Bool.and_eq_true] at h
  exact ⟨h.1.1.1, h.1.1.2, h.1.2, h.2⟩

theorem trim0_rep {F F' : Nat → Prop} {β β' : Nat → Option Value} {w : World} {o : Nat} (hF : ∀ b, F b → F' b) (hβ : ∀ i y, i ≠ o → β i = some y → β' i = some y) {v : Value} {d : D} (h : Rep F β w v d) : Rep F' β' w v (trim0 o d) :=
  h.kill0 (fun b hb => ⟨hF b hb, rfl⟩) (fun i y hi hy => hβ i y (fun e => by subst e; simp at hi) hy)

theorem trim_own {F : Nat → Prop} {w : World} {e : TypeId} {s g n c k : Nat} {es : List (List D)} {cur : Array Value} (hs0 : 0 < s) {v : Value} (hsub : Sub s 0 k (.slice (some ⟨g, 0, none⟩) n c) v) (hg : w.heap[g]? = some (.cells cur e (0, 0))) (hcm : c ≤ maxLen) (hcs : cur.size = c * s) (hk : KnownAt F w s cur.toList es) (hke : k ≤ es.length) :
    OwnRow F w e s (es.take k) v ∧ blk v = some g := by
  obtain ⟨p, len, cap, q, hxv, _, hb, hlc, rfl, hq⟩ := hsub
  cases hxv
  have hq' : q = some ⟨g, 0, none⟩ := by
    rw [hq (.inr rfl)]
    simp [Addr.add]
  subst hq'
  exact ⟨known_row hs0 hg (by rw [List.length_take]; omega) (by omega) hcm hcs hk.of_take, rfl⟩

theorem trimK_sound {d : D} {v : Value} {K : D → St → Prop} (h : trimK d st K) (hr : Rel X st β a w) (hv : Rep (FX X st β w) β w v d) :
    ∃ d' st' β', K d' st' ∧ Rel X st' β' a w ∧ Rep (FX X st' β' w) β' w v d' := by
  unfold trimK at h
  split at h
  · rename_i o s2 a0 k
    obtain ⟨y, hy, hsub⟩ := hv.hs_inv
    split at h
    · rename_i e s es ho
      cases hb : (Nat.beq s2 s && Nat.beq a0 0 && Nat.blt 0 s && Nat.ble st.pin o) with
      | false => rw [hb] at h; exact h.elim
      | true =>
        rw [hb] at h
        obtain ⟨g1, g2, g3, g4⟩ := and4 hb
        have g1 := Nat.eq_of_beq_eq_true g1
        have g2 := Nat.eq_of_beq_eq_true g2
        have g3 : 0 < s := by simpa [Nat.blt_eq] using g3
        have g4 : st.pin ≤ o := by simpa using g4
        subst g1 g2
        simp only [cond_true] at h
        obtain ⟨hke, h⟩ := NeedS.out h
        have hrow := hr.row ho hy
        rcases row_known hrow with ⟨rfl, rfl⟩ | ⟨g, cap, cur, rfl, hg, hnc, hcm, hcs, hk⟩
        · obtain ⟨p, len, cap, q, hxv, _, hb, hlc, rfl, hq⟩ := hsub
          cases hxv
          have hq' : q = none := hq (.inr rfl)
          subst hq'
          have hk0 : k = 0 := by omega
          subst hk0
          obtain ⟨β', hn, hβo, _⟩ := hr.swap (x' := .slice none 0 0) hy (fun b hb => hb) g4 (.row e s2 (([] : List (List D)).take 0)) trivial (trim0 o) rfl
            (fun F' β' hF => ⟨by simp, fun i hi => by simp at hi, [], World.ownsRow_nil w 0 e _, fun u hu => by simp at hu, fun i j hi => by simp at hi⟩)
            (fun F' β' hF hb1 hb2 v d hvd => trim0_rep hF hb1 hvd)
          exact ⟨_, _, β', swapK_out h, hn, .h _ _ hβo⟩
        · obtain ⟨hown, hblk⟩ := trim_own g3 hsub hg hcm hcs hk hke
          obtain ⟨β', hn, hβo, _⟩ := hr.swap (x' := v) hy (fun b hb => by rw [hblk] at hb; exact hb) g4 (.row e s2 (es.take k)) trivial (trim0 o) rfl
            (fun F' β' hF => by
              obtain ⟨h1, h2, xs, h3, h4, h5⟩ := hown
              exact ⟨h1, h2, xs, h3, h4, fun i j hi hj => (h5 i j hi hj).mono (fun b hb => ⟨hF b hb, rfl⟩)⟩)
            (fun F' β' hF hb1 hb2 v d hvd => trim0_rep hF hb1 hvd)
          exact ⟨_, _, β', swapK_out h, hn, .h _ _ hβo⟩
    · rename_i e s es c ho
      cases hb : (Nat.beq s2 s && Nat.beq a0 0 && Nat.blt 0 s && Nat.ble st.pin o) with
      | false => rw [hb] at h; exact h.elim
      | true =>
        rw [hb] at h
        obtain ⟨g1, g2, g3, g4⟩ := and4 hb
        have g1 := Nat.eq_of_beq_eq_true g1
        have g2 := Nat.eq_of_beq_eq_true g2
        have g3 : 0 < s := by simpa [Nat.blt_eq] using g3
        have g4 : st.pin ≤ o := by simpa using g4
        subst g1 g2
        simp only [cond_true] at h
        obtain ⟨hke, h⟩ := NeedS.out h
        obtain ⟨g, cur, rfl, hg, hec, hcm, hcs, hk⟩ := hr.ownBlk ho hy
        obtain ⟨hown, hblk⟩ := trim_own g3 hsub hg hcm hcs hk hke
        obtain ⟨β', hn, hβo, _⟩ := hr.swap (x' := v) hy (fun b hb => by rw [hblk] at hb; exact hb) g4 (.row e s2 (es.take k)) trivial (trim0 o) rfl
          (fun F' β' hF => by
            obtain ⟨h1, h2, xs, h3, h4, h5⟩ := hown
            exact ⟨h1, h2, xs, h3, h4, fun i j hi hj => (h5 i j hi hj).mono (fun b hb => ⟨hF b hb, rfl⟩)⟩)
          (fun F' β' hF hb1 hb2 v d hvd => trim0_rep hF hb1 hvd)
        exact ⟨_, _, β', swapK_out h, hn, .h _ _ hβo⟩
    · exact ⟨_, _, β, h, hr, hv⟩
  · exact ⟨_, _, β, h, hr, hv⟩

/-! ### Is a slice nil -/
@[irreducible] def NilS (es : List (List D)) (K : Bool → Prop) : Prop := ∀ b : Bool, (b = true → es = []) → K b
theorem NilS.mk {es : List (List D)} {K : Bool → Prop} (h1 : es = [] → K true) (h2 : K false) : NilS es K := by
  unfold NilS
  intro b hb
  cases b with
  | false => exact h2
  | true => exact h1 (hb rfl)
theorem NilS.out {es : List (List D)} {K : Bool → Prop} (h : NilS es K) : ∀ b : Bool, (b = true → es = []) → K b := by unfold NilS at h; exact h
def nilQ (P : Program) (op : Op) (st : St) : Option (List (List D)) :=
  match op with
  | .binOp .eql t x y t' => match P.underlying t with
    | some (.slice _) => match st.ev y with
      | .v (.slice none 0 0) => match st.ev x with
        | .sl _ es => some es
        | .h o => match st.obj o with
          | .row _ _ es => some es
          | _ => none
        | _ => none
      | _ => none
    | _ => none
  | _ => none

theorem nilQ_sound {o : Oper} {es : List (List D)} (h : nilQ X.P o.op st = some es) (hk : NilS es fun b => putK st o.dst (.bool b) K) (hr : Rel X st β a w) : o.wp X.P a w (PostR X K) Q := by
  have fin : ∀ (t t' : TypeId) (x y : Operand) (e : TypeId) (ad : Option Addr) (n c : Nat), o.op = .binOp .eql t x y t' → X.P.underlying t = some (.slice e) → a.eval x = .slice ad n c → a.eval y = .slice none 0 0 → (ad.isNone = true → es = []) → o.wp X.P a w (PostR X K) Q := by
    intro t t' x y e ad n c ho ht hx hy hn
    refine wp_value (v := .bool ad.isNone) (w' := w) ?_ ⟨_, _, putK_out (NilS.out hk _ hn), hr.put _ (.ro _ _ (.bool _))⟩
    have hg : (eqGuard .eql t x y (.slice ad n c) (.slice none 0 0)).run X.P w = .ok () w := by simp [eqGuard]
    simp only [execOp, ho, hx, hy]
    simp [Lib.run_eql_slice_nil w t e ad n c 0 0 ht, hg]
  unfold nilQ at h
  split at h
  · rename_i t x y t' ho
    split at h
    · rename_i e ht
      split at h
      · rename_i hy
        have hye := hr.ev y
        rw [hy] at hye
        have hxe := hr.ev x
        split at h
        · rename_i s es' hx
          cases h
          rw [hx] at hxe
          rcases hxe.sl_inv.sl_cases with ⟨rfl, ad, c, hv⟩ | ⟨b, off, cap, c, hv, _⟩
          · exact fin t t' x y e ad 0 c ho ht hv hye.v_inv (fun _ => rfl)
          · exact fin t t' x y e _ _ _ ho ht hv hye.v_inv (fun h => by cases h)
        · rename_i oo hx
          rw [hx] at hxe
          split at h
          · rename_i e' s es' hob
            cases h
            rcases row_known (hr.row hob hxe.h_inv) with ⟨hv, rfl⟩ | ⟨g, cap, cur, hv, _⟩
            · exact fin t t' x y e none 0 0 ho ht hv hye.v_inv (fun _ => rfl)
            · exact fin t t' x y e _ _ _ ho ht hv hye.v_inv (fun h => by cases h)
          · cases h
        · cases h
      · cases h
    · cases h
  · cases h
end
end Go.Eng
