/-
  The engine, thirty-fourth part. Calls that make objects and hand back several values; empty slices handed back.
  No conditions.
-/
import Derived.Test.YthhmhmbdfahkjaaEng33
namespace Go.Eng
open Go Go.RowKit

/-- An empty slice without memory, read as a list. -/
def asNil0 (s : Nat) : D → D
  | .v (.slice none 0 0) => .sl s []
  | d => d
def asNil (s : Nat) : D → D
  | .tup ds => .tup (ds.map (asNil0 s))
  | d => asNil0 s d
theorem Rep.asNil0 {F : Nat → Prop} {β : Nat → Option Value} {w : World} {v : Value} {d : D} {s : Nat} (h : Rep F β w v d) : Rep F β w v (asNil0 s d) := by
  unfold Eng.asNil0
  split
  · rw [h.v_inv]
    exact .ro _ _ (.slnil _ _ _)
  · exact h
theorem Rep.asNil {F : Nat → Prop} {β : Nat → Option Value} {w : World} {v : Value} {d : D} {s : Nat} (h : Rep F β w v d) : Rep F β w v (asNil s d) := by
  unfold Eng.asNil
  split
  · obtain ⟨cs, rfl, hl, hr⟩ := h.tup_inv
    refine .tup _ _ (by simp [hl]) (fun i hi => ?_)
    rw [getD_map_junk _ rfl]
    exact (hr i (by simpa using hi)).asNil0
  · exact h.asNil0
theorem ret_nil {X : Ctx} {G : Nat → Option (List D)} {pin : Nat} {st : St} {d : D} {post : D → List Obj → Prop} (s : Nat) (h : RetS X G pin st (asNil s d) post) : RetS X G pin st d post :=
  RetS.mk fun β a w v hr hv => h.use β a w v hr hv.asNil

/-- An empty slice without memory, handed back as a row. -/
theorem ret_adopt {X : Ctx} {G : Nat → Option (List D)} {pin : Nat} {st : St} {post : D → List Obj → Prop} (e : TypeId) (s : Nat) (h : RetS X G pin (st.push (.row e s [])) (.h st.n) post) : RetS X G pin st (.v (.slice none 0 0)) post := by
  refine RetS.mk fun β a w v hr hv => ?_
  have h1 : Rel X (st.push (.row e s [])) (OneDef β st.n (.slice none 0 0)) a w := by
    refine hr.newRow' (grownBy_refl w) (fun b hb => by simp [blk] at hb) (fun F' _ => ?_)
    exact ⟨Nat.zero_le _, fun i hi => by simp at hi, [], ⟨by simp, .inl ⟨rfl, rfl⟩⟩, fun u hu => by simp at hu, fun i j hi => by simp at hi⟩
  rw [hv.v_inv]
  exact h.use _ a w _ h1 (rep_newh hr (.row e s []) _ _ _)

/-- A call that makes objects. -/
theorem call_mk {P : Program} {w0 : World} {F0 lent : Nat → Prop} {β0 : Nat → Option Value} {env : List (Nat × D)} {nt : Nat} {objs : List Obj} {g : Nat → Option (List D)} {pin : Nat} {f : FuncId} {ds : List D} {K : D → St → Prop} {d : D} {oo : List Obj} {n : Nat}
    (hc : FnC P f g 0 [] ds (fun d' os => d' = d ∧ os = oo)) (hn : ds.all noH = true) (hl : objs.length = n) (hk : K (ren (n + ·) d) ⟨env, nt, objs ++ oo, g, pin⟩) : CallS ⟨P, w0, F0, lent, β0⟩ f ds ⟨env, nt, objs, g, pin⟩ K := by
  subst hl
  refine call_plain (X := ⟨P, w0, F0, lent, β0⟩) hc hn ?_
  rintro d' os ⟨rfl, rfl⟩
  exact hk
theorem call_mk_look {P : Program} {w0 : World} {F0 lent : Nat → Prop} {β0 : Nat → Option Value} {env : List (Nat × D)} {nt : Nat} {objs : List Obj} {g : Nat → Option (List D)} {pin : Nat} {f : FuncId} {ds : List D} {K : D → St → Prop} {d : D} {oo : List Obj} {n : Nat}
    (hc : FnC P f g 0 [] (ds.map (view ⟨env, nt, objs, g, pin⟩)) (fun d' os => d' = d ∧ os = oo)) (hd : flat d = true) (hf : ∀ o ∈ oo, FlatO o) (hl : objs.length = n) (hk : K (ren (n + ·) d) ⟨env, nt, objs ++ oo, g, pin⟩) :
    CallS ⟨P, w0, F0, lent, β0⟩ f ds ⟨env, nt, objs, g, pin⟩ K := by
  subst hl
  refine call_view (X := ⟨P, w0, F0, lent, β0⟩) hc ?_
  rintro d' os ⟨rfl, rfl⟩
  exact ⟨hd, hf, hk⟩
theorem flat_one {o : Obj} (h : FlatO o) : ∀ p ∈ [o], FlatO p := by
  intro p hp
  rw [List.mem_singleton.1 hp]
  exact h
theorem flat_none : ∀ p ∈ ([] : List Obj), FlatO p := fun _ h => (by cases h)
theorem LenS.nil {α : Type} {K : Int → Prop} (h : K 0) : LenS ([] : List α).length K := LenS.mk fun _ => h
theorem AskS.app {n b : Nat} {K : Prop} (hb : Nat.ble b 65536 = true) (hn : n ≤ 1073741824) (hk : K) : AskS (n * b ≤ 140737488355328) K := by
  refine AskS.mk ⟨?_, hk⟩
  have hb : b ≤ 65536 := by simpa using hb
  calc n * b ≤ 1073741824 * 65536 := Nat.mul_le_mul hn hb
    _ ≤ 140737488355328 := by decide
end Go.Eng
