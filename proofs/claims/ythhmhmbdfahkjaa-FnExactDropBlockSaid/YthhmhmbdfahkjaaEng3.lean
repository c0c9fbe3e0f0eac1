/-
  The engine, third part. What becomes of the relation where an object of the call's own is written, grows, or is dropped.
  No conditions. Nothing here speaks of a program.
-/
import Derived.Test.YthhmhmbdfahkjaaEng2
namespace Go.Eng
open Go Go.RowKit

theorem getD_map_junk (f : D → D) (hf : f .junk = .junk) (ds : List D) (i : Nat) : (ds.map f).getD i .junk = f (ds.getD i .junk) := by
  simp only [List.getD_eq_getElem?_getD, List.getElem?_map]
  cases ds[i]? <;> simp [hf]

section
variable {F : Nat → Prop} {β : Nat → Option Value} {w : World}

theorem Rep.agg_inv {v : Value} {ds : List D} (h : Rep F β w v (.agg ds)) : ∃ cs : List Value, v = .agg cs.toArray ∧ cs.length = ds.length ∧ (∀ u ∈ cs, u.oneCell' = true) ∧ ∀ i, i < ds.length → Rep F β w (cs.getD i undef) (ds.getD i .junk) := by
  cases h with
  | ro x d h =>
    cases h with
    | agg cs ds hl h1 h => exact ⟨cs, rfl, hl, h1, fun i hi => .ro _ _ (h i hi)⟩
  | agg cs ds hl h1 h => exact ⟨cs, rfl, hl, h1, h⟩
theorem Rep.tup_inv {v : Value} {ds : List D} (h : Rep F β w v (.tup ds)) : ∃ cs : List Value, v = .tuple cs.toArray ∧ cs.length = ds.length ∧ ∀ i, i < ds.length → Rep F β w (cs.getD i undef) (ds.getD i .junk) := by
  cases h with
  | ro x d h =>
    cases h with
    | tup cs ds hl h => exact ⟨cs, rfl, hl, fun i hi => .ro _ _ (h i hi)⟩
  | tup cs ds hl h => exact ⟨cs, rfl, hl, h⟩
theorem Rep.clo_inv {v : Value} {f : Fn} {ds : List D} (h : Rep F β w v (.clo f ds)) : ∃ cs : List Value, v = .func f #[] cs.toArray ∧ cs.length = ds.length ∧ ∀ i, i < ds.length → Rep F β w (cs.getD i undef) (ds.getD i .junk) := by
  cases h with
  | ro x d h =>
    cases h with
    | clo f cs ds hl h => exact ⟨cs, rfl, hl, fun i hi => .ro _ _ (h i hi)⟩
  | clo f cs ds hl h => exact ⟨cs, rfl, hl, h⟩
theorem Rep.h_inv {v : Value} {o : Nat} (h : Rep F β w v (.h o)) : β o = some v := by
  cases h with
  | ro x d h => cases h
  | h o x h => exact h
theorem Rep.hp_inv {v : Value} {o k : Nat} (h : Rep F β w v (.hp o k)) : ∃ b x, β o = some x ∧ blk x = some b ∧ v = .pointer (some ⟨b, k, none⟩) := by
  cases h with
  | ro x d h => cases h
  | hp o off b x h hb => exact ⟨b, x, h, hb, rfl⟩
theorem Rep.hr_inv {v : Value} {o s i k : Nat} (h : Rep F β w v (.hr o s i k)) : ∃ b x, β o = some x ∧ blk x = some b ∧ v = .pointer (some ⟨b, i * s + k, none⟩) := by
  cases h with
  | ro x d h => cases h
  | hr o s i off b x h hb => exact ⟨b, x, h, hb, rfl⟩
theorem Rep.hs_inv {v : Value} {o s a b : Nat} (h : Rep F β w v (.hs o s a b)) : ∃ x, β o = some x ∧ Sub s a b x v := by
  cases h with
  | ro x d h => cases h
  | hs o s a b x v h hv => exact ⟨x, h, hv⟩
theorem Rep.int_inv {v : Value} {k : IntKind} {n : Int} (h : Rep F β w v (.int k n)) : v = .int k n := by
  cases h with
  | ro x d h => cases h; rfl
theorem Rep.bool_inv {v : Value} {b : Bool} (h : Rep F β w v (.bool b)) : v = .bool b := by
  cases h with
  | ro x d h => cases h; rfl
theorem Rep.str_inv {v : Value} {l : List UInt8} (h : Rep F β w v (.str l)) : v = .string ⟨l.toArray⟩ := by
  cases h with
  | ro x d h => cases h; rfl
theorem Rep.str_len {v : Value} {l : List UInt8} (h : Rep F β w v (.str l)) : l.length ≤ maxLen := by
  cases h with
  | ro x d h => cases h; assumption
theorem Rep.v_inv {v x : Value} (h : Rep F β w v (.v x)) : v = x := by
  cases h with
  | ro x d h => cases h; rfl
theorem Rep.sl_inv {v : Value} {s : Nat} {es : List (List D)} (h : Rep F β w v (.sl s es)) : RO F w v (.sl s es) := by
  cases h with
  | ro x d h => exact h
theorem Rep.rp_inv {v : Value} {cs : List D} (h : Rep F β w v (.rp cs)) : RO F w v (.rp cs) := by
  cases h with
  | ro x d h => exact h
end

/-- Handles of the objects of p are forgotten. -/
def kill0 (p : Nat → Bool) : D → D
  | .h o => bif p o then .junk else .h o
  | .hp o k => bif p o then .junk else .hp o k
  | .hr o s i k => bif p o then .junk else .hr o s i k
  | .hs o s a b => bif p o then .junk else .hs o s a b
  | .agg _ => .junk
  | .tup _ => .junk
  | .clo _ _ => .junk
  | d => d
def kill1 (p : Nat → Bool) : D → D
  | .agg cs => .agg (cs.map (kill0 p))
  | .clo f cs => .clo f (cs.map (kill0 p))
  | .tup _ => .junk
  | d => kill0 p d
def kill (p : Nat → Bool) : D → D
  | .tup ds => .tup (ds.map (kill1 p))
  | d => kill1 p d
def killE (p : Nat → Bool) : List (Nat × D) → List (Nat × D)
  | [] => []
  | (k, d) :: r => (k, kill p d) :: killE p r
def killO (p : Nat → Bool) : Obj → Obj
  | .box cs => .box (cs.map (kill1 p))
  | .frame vs e => .frame vs (killE p e)
  | ob => ob

theorem look_killE (p : Nat → Bool) (e : List (Nat × D)) (i : Nat) : look (killE p e) i = kill p (look e i) := by
  induction e with
  | nil => rfl
  | cons x r ih =>
    obtain ⟨k, d⟩ := x
    simp only [killE, look]
    cases Nat.beq i k <;> simp [ih]

section
variable {F F' : Nat → Prop} {β β' : Nat → Option Value} {w w' : World} {p : Nat → Bool}
  (hF : ∀ b, F b → F' b ∧ w'.heap[b]? = w.heap[b]?) (hβ : ∀ o x, p o = false → β o = some x → β' o = some x)
include hF hβ

theorem Rep.kill0 {v : Value} {d : D} (h : Rep F β w v d) : Rep F' β' w' v (kill0 p d) := by
  cases h with
  | ro x d h =>
    cases d <;> simp only [Eng.kill0] <;> first | exact .ro _ _ (.junk _) | exact .ro _ _ (h.mono hF) | cases h
  | h o x h =>
    simp only [Eng.kill0]
    cases hp : p o with
    | true => exact .ro _ _ (.junk _)
    | false => exact .h _ _ (hβ _ _ hp h)
  | hp o off b x h hb =>
    simp only [Eng.kill0]
    cases hp : p o with
    | true => exact .ro _ _ (.junk _)
    | false => exact .hp _ _ _ _ (hβ _ _ hp h) hb
  | hr o s i off b x h hb =>
    simp only [Eng.kill0]
    cases hp : p o with
    | true => exact .ro _ _ (.junk _)
    | false => exact .hr _ _ _ _ _ _ (hβ _ _ hp h) hb
  | hs o s a b x v h hv =>
    simp only [Eng.kill0]
    cases hp : p o with
    | true => exact .ro _ _ (.junk _)
    | false => exact .hs _ _ _ _ _ _ (hβ _ _ hp h) hv
  | agg => exact .ro _ _ (.junk _)
  | tup => exact .ro _ _ (.junk _)
  | clo => exact .ro _ _ (.junk _)

theorem Rep.kill1 {v : Value} {d : D} (h : Rep F β w v d) : Rep F' β' w' v (kill1 p d) := by
  cases d with
  | agg ds =>
    obtain ⟨cs, rfl, hl, h1, hr⟩ := h.agg_inv
    refine .agg _ _ (by simp [hl]) h1 (fun i hi => ?_)
    rw [getD_map_junk _ rfl]
    exact (hr i (by simpa using hi)).kill0 hF hβ
  | clo f ds =>
    obtain ⟨cs, rfl, hl, hr⟩ := h.clo_inv
    refine .clo _ _ _ (by simp [hl]) (fun i hi => ?_)
    rw [getD_map_junk _ rfl]
    exact (hr i (by simpa using hi)).kill0 hF hβ
  | tup ds => exact .ro _ _ (.junk _)
  | _ => exact h.kill0 hF hβ

theorem Rep.kill {v : Value} {d : D} (h : Rep F β w v d) : Rep F' β' w' v (kill p d) := by
  cases d with
  | tup ds =>
    obtain ⟨cs, rfl, hl, hr⟩ := h.tup_inv
    refine .tup _ _ (by simp [hl]) (fun i hi => ?_)
    rw [getD_map_junk _ rfl]
    exact (hr i (by simpa using hi)).kill1 hF hβ
  | _ => exact h.kill1 hF hβ

theorem Own.kill {o : Obj} {x : Value} (hb : ∀ b, blk x = some b → w'.heap[b]? = w.heap[b]?) (h : Own F β w o x) : Own F' β' w' (killO p o) x := by
  cases o with
  | dead => trivial
  | row e s es =>
    obtain ⟨h1, h2, xs, h3, h4, h5⟩ := h
    exact ⟨h1, h2, xs, ownsRow_heap hb h3, h4, fun i j hi hj => (h5 i j hi hj).mono hF⟩
  | box cs =>
    obtain ⟨b, c, T, rfl, hg, hs, h1, hr⟩ := h
    refine ⟨b, c, T, rfl, by rw [hb b rfl]; exact hg, by simp [hs], h1, fun j hj => ?_⟩
    rw [getD_map_junk _ rfl]
    exact (hr j (by simpa using hj)).kill1 hF hβ
  | frame vs e =>
    obtain ⟨rfl, hr⟩ := h
    refine ⟨rfl, fun i => ?_⟩
    rw [look_killE]
    exact (hr i).kill hF hβ
  | blk e s cs c =>
    obtain ⟨g, cur, rfl, hg, h2, h3, h4, h5, h6⟩ := h
    exact ⟨g, cur, rfl, by rw [hb g rfl]; exact hg, h2, h3, h4, h5, fun i j hi hj => ⟨(h6 i j hi hj).1, (h6 i j hi hj).2.mono hF⟩⟩
end

theorem killO_live {p : Nat → Bool} {o : Obj} : (killO p o).live ↔ o.live := by cases o <;> simp [killO, Obj.live]

def St.setObj (st : St) (o : Nat) (ob : Obj) : St := { st with objs := st.objs.set o ob }
theorem setObj_n (st : St) (o : Nat) (ob : Obj) : (st.setObj o ob).n = st.n := by simp [St.setObj, St.n]
theorem setObj_same (st : St) {o : Nat} (ob : Obj) (h : o < st.n) : (st.setObj o ob).obj o = ob := by
  have h' : o < st.objs.length := h
  simp [St.setObj, St.obj, List.getD_eq_getElem?_getD, h']
theorem setObj_ne (st : St) {o i : Nat} (ob : Obj) (h : i ≠ o) : (st.setObj o ob).obj i = st.obj i := by
  simp [St.setObj, St.obj, List.getD_eq_getElem?_getD, List.getElem?_set_ne (Ne.symm h)]

/-- A store into an object: its block alone is written. -/
theorem Rel.store {X : Ctx} {st : St} {β : Nat → Option Value} {a : Act} {w w' : World} (h : Rel X st β a w) {o : Nat} {x : Value} (hx : β o = some x) (hg : w.grownBy w' (blk x))
    (ob : Obj) (hob : ob.live) (hown : ∀ F', (∀ b, FX X st β w b → F' b ∧ w'.heap[b]? = w.heap[b]?) → Own F' β w' ob x) : Rel X (st.setObj o ob) β a w' := by
  obtain ⟨hon, hol⟩ := h.dom o x hx
  have hlive : ∀ i, i < st.n → (((st.setObj o ob).obj i).live ↔ (st.obj i).live) := by
    intro i hi
    by_cases e : i = o
    · subst e; rw [setObj_same _ _ hi]; exact ⟨fun _ => hol, fun _ => hob⟩
    · rw [setObj_ne _ _ e]
  have hF : ∀ b, FX X st β w b → FX X (st.setObj o ob) β w' b ∧ w'.heap[b]? = w.heap[b]? := by
    intro b hb
    refine ⟨⟨Nat.lt_of_lt_of_le hb.1 hg.size, hb.2.1, fun i hi hl y hy => ?_⟩, hg.block b hb.1 (fun e => hb.2.2 o hon hol x hx e.symm)⟩
    rw [setObj_n] at hi
    exact hb.2.2 i hi ((hlive i hi).1 hl) y hy
  have hlow : ∀ b, blk x = some b → X.w0.heap.size ≤ b ∨ X.lent b := fun b hb => h.low o x b hx hb
  refine ⟨h.defers, h.size, fun i => (h.tmps i).mono hF (fun _ _ h => h), fun i y hy => ?_, fun i hi hl => ?_, h.sep, h.low, h.kept.trans ⟨hg.os, hg.tape, hg.output, hg.size, fun k hk hl => ?_⟩, fun g cs hgl => (h.glob g cs hgl).mono hF, h.stay, by rw [setObj_n]; exact h.pinned⟩
  · have := h.dom i y hy
    exact ⟨by rw [setObj_n]; exact this.1, (hlive i this.1).2 this.2⟩
  · rw [setObj_n] at hi
    by_cases e : i = o
    · subst e
      rw [setObj_same _ _ hi]
      exact ⟨x, hx, hown _ hF⟩
    · obtain ⟨y, hy, hw⟩ := h.own i hi ((hlive i hi).1 hl)
      rw [setObj_ne _ _ e]
      refine ⟨y, hy, hw.mono hF (fun _ _ h => h) (fun b hb => hg.block b (Own.lt ((hlive i hi).1 hl) hw b hb) (fun e' => e (h.sep i o y x b hy hx hb e'.symm)))⟩
  · refine hg.block k (Nat.lt_of_lt_of_le hk h.kept.size) (fun e => ?_)
    rcases hlow k e.symm with h' | h'
    · omega
    · exact hl h'

/-- An object that grows, into its own block or a new one: handles of it are forgotten. -/
theorem Rel.grow {X : Ctx} {st : St} {β : Nat → Option Value} {a : Act} {w w' : World} (h : Rel X st β a w) {o : Nat} {x x' : Value} (hx : β o = some x) (hg : w.grownBy w' (blk x))
    (hx' : ∀ b, blk x' = some b → blk x = some b ∨ w.heap.size ≤ b) (hpin : st.pin ≤ o)
    (ob : Obj) (hob : ob.live) (hown : ∀ F' β', (∀ b, FX X st β w b → F' b ∧ w'.heap[b]? = w.heap[b]?) → Own F' β' w' ob x') :
    Rel X (St.mk (killE (Nat.beq o) st.env) st.nt ((st.objs.map (killO (Nat.beq o))).set o ob) st.g st.pin) (fun i => if i = o then some x' else β i) a w' := by
  obtain ⟨hon, hol⟩ := h.dom o x hx
  have hon' : o < st.objs.length := hon
  let st' : St := St.mk (killE (Nat.beq o) st.env) st.nt ((st.objs.map (killO (Nat.beq o))).set o ob) st.g st.pin
  let β' : Nat → Option Value := fun i => if i = o then some x' else β i
  show Rel X st' β' a w'
  have hn : st'.n = st.n := by simp [st', St.n]
  have hso : st'.obj o = ob := by simp [st', St.obj, List.getD_eq_getElem?_getD, hon']
  have hsn : ∀ i, i ≠ o → st'.obj i = killO (Nat.beq o) (st.obj i) := by
    intro i hi
    simp only [st', St.obj, List.getD_eq_getElem?_getD, List.getElem?_set_ne (Ne.symm hi), List.getElem?_map]
    cases st.objs[i]? <;> simp [killO]
  have hlive : ∀ i, (st'.obj i).live ↔ (st.obj i).live := by
    intro i
    by_cases e : i = o
    · subst e; rw [hso]; exact ⟨fun _ => hol, fun _ => hob⟩
    · rw [hsn i e, killO_live]
  have hβ : ∀ i y, Nat.beq o i = false → β i = some y → β' i = some y := by
    intro i y hp hy
    have e : i ≠ o := by intro e; subst e; simp at hp
    simp only [β', if_neg e]
    exact hy
  have hF : ∀ b, FX X st β w b → FX X st' β' w' b ∧ w'.heap[b]? = w.heap[b]? := by
    intro b hb
    refine ⟨⟨Nat.lt_of_lt_of_le hb.1 hg.size, hb.2.1, fun i hi hl y hy => ?_⟩, hg.block b hb.1 (fun e => hb.2.2 o hon hol x hx e.symm)⟩
    rw [hn] at hi
    by_cases e : i = o
    · simp only [β', if_pos e] at hy
      cases hy
      intro hbx
      rcases hx' b hbx with h' | h'
      · exact hb.2.2 o hon hol x hx h'
      · have := hb.1; omega
    · simp only [β', if_neg e] at hy
      exact hb.2.2 i hi ((hlive i).1 hl) y hy
  refine ⟨h.defers, h.size, fun i => ?_, fun i y hy => ?_, fun i hi hl => ?_, fun i i' y y' b hy hy' hb hb' => ?_, fun i y b hy hb => ?_, h.kept.trans ⟨hg.os, hg.tape, hg.output, hg.size, fun k hk hl => ?_⟩, fun g cs hgl => (h.glob g cs hgl).mono hF, fun i hi => ?_, by rw [hn]; exact h.pinned⟩
  · show Rep _ β' w' _ (look (killE (Nat.beq o) st.env) i)
    rw [look_killE]
    exact (h.tmps i).kill hF hβ
  · rw [hn, hlive]
    by_cases e : i = o
    · subst e; exact ⟨hon, hol⟩
    · simp only [β', if_neg e] at hy
      exact h.dom i y hy
  · by_cases e : i = o
    · subst e
      rw [hso]
      exact ⟨x', by simp [β'], hown _ _ hF⟩
    · obtain ⟨y, hy, hw⟩ := h.own i (hn ▸ hi) ((hlive i).1 hl)
      rw [hsn i e]
      refine ⟨y, by simp only [β', if_neg e]; exact hy, hw.kill hF hβ (fun b hb => hg.block b (Own.lt ((hlive i).1 hl) hw b hb) (fun e' => e (h.sep i o y x b hy hx hb e'.symm)))⟩
  · have key : ∀ i y, i ≠ o → β i = some y → ∀ b, blk y = some b → b < w.heap.size ∧ blk x ≠ some b := by
      intro i y e hy b hb
      obtain ⟨hin, hil⟩ := h.dom i y hy
      obtain ⟨y2, hy2, hw⟩ := h.own i hin hil
      rw [hy] at hy2
      cases hy2
      exact ⟨Own.lt hil hw b hb, fun hbx => e (h.sep i o y x b hy hx hb hbx)⟩
    by_cases e : i = o <;> by_cases e' : i' = o
    · rw [e, e']
    · exfalso
      simp only [β', if_pos e] at hy
      simp only [β', if_neg e'] at hy'
      cases hy
      obtain ⟨k1, k2⟩ := key i' y' e' hy' b hb'
      rcases hx' b hb with h' | h'
      · exact k2 h'
      · omega
    · exfalso
      simp only [β', if_neg e] at hy
      simp only [β', if_pos e'] at hy'
      cases hy'
      obtain ⟨k1, k2⟩ := key i y e hy b hb
      rcases hx' b hb' with h' | h'
      · exact k2 h'
      · omega
    · simp only [β', if_neg e] at hy
      simp only [β', if_neg e'] at hy'
      exact h.sep i i' y y' b hy hy' hb hb'
  · by_cases e : i = o
    · simp only [β', if_pos e] at hy
      cases hy
      rcases hx' b hb with h' | h'
      · exact h.low o x b hx h'
      · exact .inl (Nat.le_trans h.kept.size h')
    · simp only [β', if_neg e] at hy
      exact h.low i y b hy hb
  · refine hg.block k (Nat.lt_of_lt_of_le hk h.kept.size) (fun e => ?_)
    rcases h.low o x k hx e.symm with h' | h'
    · omega
    · exact hl h'
  · have hi' : i < st.pin := hi
    simp only [β', if_neg (show i ≠ o by omega)]
    exact h.stay i hi'

/-- The state may be weakened: objects from m on are dropped, temporaries are forgotten. -/
def Weak (st st' : St) : Prop := ∀ X β a w, Rel X st β a w → ∃ β', Rel X st' β' a w

theorem Weak.refl (st : St) : Weak st st := fun _ β _ _ h => ⟨β, h⟩
theorem Weak.trans {a b c : St} (h : Weak a b) (k : Weak b c) : Weak a c := fun X β ac w r => let ⟨β', r'⟩ := h X β ac w r; k X β' ac w r'

/-- Each listed temporary of e' is what e says of it, handles of dropped objects apart. -/
def EnvOK (m : Nat) (e : List (Nat × D)) : List (Nat × D) → Prop
  | [] => True
  | (k, d) :: r => d = kill (Nat.ble m) (look e k) ∧ EnvOK m e r

theorem EnvOK.look {m : Nat} {e : List (Nat × D)} : ∀ {e' : List (Nat × D)}, EnvOK m e e' → ∀ i, Eng.look e' i = .junk ∨ Eng.look e' i = kill (Nat.ble m) (Eng.look e i)
  | [], _, _ => .inl rfl
  | (k, d) :: r, h, i => by
    simp only [Eng.look]
    cases hb : Nat.beq i k with
    | true =>
      have := Nat.eq_of_beq_eq_true hb
      subst this
      exact .inr h.1
    | false => exact EnvOK.look h.2 i

theorem Weak.drop (st : St) (m : Nat) (e' : List (Nat × D)) (objs' : List Obj) (hm : m ≤ st.objs.length) (hp : st.pin ≤ m) (ho : objs' = (st.objs.take m).map (killO (Nat.ble m))) (he : EnvOK m st.env e') :
    Weak st ⟨e', st.nt, objs', st.g, st.pin⟩ := by
  intro X β a w h
  let st' : St := ⟨e', st.nt, objs', st.g, st.pin⟩
  let β' : Nat → Option Value := fun i => if i < m then β i else none
  have hn : st'.n = m := by simp [st', St.n, ho, hm]
  have hob : ∀ i, i < m → st'.obj i = killO (Nat.ble m) (st.obj i) := by
    intro i hi
    simp only [st', St.obj, ho, List.getD_eq_getElem?_getD, List.getElem?_map, List.getElem?_take_of_lt hi]
    cases st.objs[i]? <;> simp [killO]
  have hβ : ∀ i y, Nat.ble m i = false → β i = some y → β' i = some y := by
    intro i y hp hy
    have : i < m := by
      rcases Nat.lt_or_ge i m with h | h
      · exact h
      · rw [show Nat.ble m i = true from by simpa using h] at hp; cases hp
    simp only [β', if_pos this]
    exact hy
  have hsub : ∀ i y, β' i = some y → i < m ∧ β i = some y := by
    intro i y hy
    by_cases e : i < m
    · simp only [β', if_pos e] at hy; exact ⟨e, hy⟩
    · simp only [β', if_neg e] at hy; cases hy
  have hF : ∀ b, FX X st β w b → FX X st' β' w b ∧ w.heap[b]? = w.heap[b]? := by
    intro b hb
    refine ⟨⟨hb.1, hb.2.1, fun i _ _ y hy => ?_⟩, rfl⟩
    have h2 := (hsub i y hy).2
    exact hb.2.2 i (h.dom i y h2).1 (h.dom i y h2).2 y h2
  refine ⟨β', h.defers, h.size, fun i => ?_, fun i y hy => ?_, fun i hi hl => ?_, fun i i' y y' b hy hy' hb hb' => h.sep i i' y y' b (hsub i y hy).2 (hsub i' y' hy').2 hb hb', fun i y b hy hb => h.low i y b (hsub i y hy).2 hb, h.kept, fun g cs hgl => (h.glob g cs hgl).mono hF, fun i hi => ?_, by rw [hn]; exact hp⟩
  · show Rep _ β' w _ (Eng.look e' i)
    rcases he.look i with e | e
    · rw [e]; exact .ro _ _ (.junk _)
    · rw [e]; exact (h.tmps i).kill hF hβ
  · have h2 := hsub i y hy
    have h3 := h.dom i y h2.2
    show i < st'.n ∧ (st'.obj i).live
    rw [hn, hob i h2.1, killO_live]
    exact ⟨h2.1, h3.2⟩
  · have hi' : i < m := by rw [← hn]; exact hi
    have hl' : (st.obj i).live := by
      have : (st'.obj i).live := hl
      rwa [hob i hi', killO_live] at this
    obtain ⟨y, hy, hw⟩ := h.own i (Nat.lt_of_lt_of_le hi' hm) hl'
    refine ⟨y, by simp only [β', if_pos hi']; exact hy, ?_⟩
    show Own (FX X st' β' w) β' w (st'.obj i) y
    rw [hob i hi']
    exact hw.kill hF hβ (fun _ _ => rfl)
  · have hi' : i < st.pin := hi
    simp only [β', if_pos (show i < m by omega)]
    exact h.stay i hi'
end Go.Eng
