/-
  The engine, fourteenth part. Operations that make or write memory of the call's own: the rules, and that the model follows them.
  No conditions.
-/
import Derived.Test.YthhmhmbdfahkjaaEng13
namespace Go.Eng
open Go Go.RowKit

/-! ### Strict steps on states -/
def force : D → (D → Prop) → Prop
  | .junk, K => K .junk
  | .int k n, K => K (.int k n)
  | .bool b, K => K (.bool b)
  | .str l, K => K (.str l)
  | .v x, K => K (.v x)
  | .agg cs, K => K (.agg cs)
  | .sl s es, K => K (.sl s es)
  | .rp cs, K => K (.rp cs)
  | .h o, K => K (.h o)
  | .hp o k, K => K (.hp o k)
  | .hr o s i k, K => K (.hr o s i k)
  | .hs o s a b, K => K (.hs o s a b)
  | .tup ds, K => K (.tup ds)
  | .clo f ds, K => K (.clo f ds)
theorem force_out {d : D} {K : D → Prop} (h : force d K) : K d := by cases d <;> exact h

def putK (st : St) (dst : Option Nat) (d : D) (K : St → Prop) : Prop :=
  match st, dst with
  | ⟨env, nt, objs, g, pin⟩, none => K ⟨env, nt, objs, g, pin⟩
  | ⟨env, nt, objs, g, pin⟩, some t => bif Nat.blt t nt then K ⟨(t, d) :: env, nt, objs, g, pin⟩ else K ⟨env, nt, objs, g, pin⟩
theorem putK_out {st : St} {dst : Option Nat} {d : D} {K : St → Prop} (h : putK st dst d K) : K (st.put dst d) := by
  obtain ⟨env, nt, objs, g, pin⟩ := st
  cases dst with
  | none => exact h
  | some t =>
    unfold putK at h
    unfold St.put
    simp only at h ⊢
    cases hb : Nat.blt t nt <;> rw [hb] at h <;> exact h

def cntK : List Obj → Nat → (Nat → Prop) → Prop
  | [], n, K => K n
  | _ :: r, n, K => cntK r (n + 1) K
theorem cntK_out : ∀ {l : List Obj} {n : Nat} {K : Nat → Prop}, cntK l n K → K (n + l.length)
  | [], _, _, h => h
  | _ :: r, n, K, h => by
    have := cntK_out (l := r) (n := n + 1) h
    rw [List.length_cons]
    rwa [show n + (r.length + 1) = n + 1 + r.length by omega]

def appK : List Obj → Obj → (List Obj → Prop) → Prop
  | [], ob, K => K [ob]
  | x :: r, ob, K => appK r ob fun l => K (x :: l)
theorem appK_out : ∀ {l : List Obj} {ob : Obj} {K : List Obj → Prop}, appK l ob K → K (l ++ [ob])
  | [], _, _, h => h
  | x :: r, ob, K, h => appK_out (l := r) (K := fun l => K (x :: l)) h

def pushK (st : St) (ob : Obj) (K : Nat → St → Prop) : Prop :=
  match st with
  | ⟨env, nt, objs, g, pin⟩ => cntK objs 0 fun n => appK objs ob fun l => K n ⟨env, nt, l, g, pin⟩
theorem pushK_out {st : St} {ob : Obj} {K : Nat → St → Prop} (h : pushK st ob K) : K st.n (st.push ob) := by
  obtain ⟨env, nt, objs, g, pin⟩ := st
  have := appK_out (cntK_out h)
  rw [Nat.zero_add] at this
  exact this

def setOK : List Obj → Nat → Obj → (List Obj → Prop) → Prop
  | [], _, _, K => K []
  | _ :: r, 0, ob, K => K (ob :: r)
  | x :: r, n + 1, ob, K => setOK r n ob fun l => K (x :: l)
theorem setOK_out : ∀ {l : List Obj} {n : Nat} {ob : Obj} {K : List Obj → Prop}, setOK l n ob K → K (l.set n ob)
  | [], _, _, _, h => h
  | _ :: _, 0, _, _, h => h
  | x :: r, n + 1, ob, K, h => setOK_out (l := r) (n := n) (K := fun l => K (x :: l)) h
def setK (st : St) (o : Nat) (ob : Obj) (K : St → Prop) : Prop :=
  match st with
  | ⟨env, nt, objs, g, pin⟩ => setOK objs o ob fun l => K ⟨env, nt, l, g, pin⟩
theorem setK_out {st : St} {o : Nat} {ob : Obj} {K : St → Prop} (h : setK st o ob K) : K (st.setObj o ob) := by
  obtain ⟨env, nt, objs, g, pin⟩ := st
  exact setOK_out h

def killEK (p : Nat → Bool) : List (Nat × D) → (List (Nat × D) → Prop) → Prop
  | [], K => K []
  | (k, d) :: r, K => force (kill p d) fun d' => killEK p r fun l => K ((k, d') :: l)
theorem killEK_out {p : Nat → Bool} : ∀ {e : List (Nat × D)} {K : List (Nat × D) → Prop}, killEK p e K → K (killE p e)
  | [], _, h => h
  | (k, d) :: r, K, h => killEK_out (e := r) (K := fun l => K ((k, kill p d) :: l)) (force_out h)
def forceE : List (Nat × D) → (List (Nat × D) → Prop) → Prop
  | [], K => K []
  | (k, d) :: r, K => force d fun d' => forceE r fun l => K ((k, d') :: l)
theorem forceE_out : ∀ {e : List (Nat × D)} {K : List (Nat × D) → Prop}, forceE e K → K e
  | [], _, h => h
  | (k, d) :: r, K, h => forceE_out (e := r) (K := fun l => K ((k, d) :: l)) (force_out h)
def forceO : Obj → (Obj → Prop) → Prop
  | .dead, K => K .dead
  | .row e s es, K => K (.row e s es)
  | .box cs, K => K (.box cs)
  | .frame vs e, K => forceE e fun e => K (.frame vs e)
  | .blk e s cs c, K => K (.blk e s cs c)
theorem forceO_out {o : Obj} {K : Obj → Prop} (h : forceO o K) : K o := by
  cases o with
  | frame vs e => exact forceE_out (K := fun e => K (.frame vs e)) h
  | _ => exact h
def killOK (p : Nat → Bool) : List Obj → (List Obj → Prop) → Prop
  | [], K => K []
  | o :: r, K => forceO (killO p o) fun o' => killOK p r fun l => K (o' :: l)
theorem killOK_out {p : Nat → Bool} : ∀ {e : List Obj} {K : List Obj → Prop}, killOK p e K → K (e.map (killO p))
  | [], _, h => h
  | o :: r, K, h => killOK_out (e := r) (K := fun l => K (killO p o :: l)) (forceO_out h)
/-- An object grows: its handles are forgotten. -/
def St.grow (st : St) (o : Nat) (ob : Obj) : St := St.mk (killE (Nat.beq o) st.env) st.nt ((st.objs.map (killO (Nat.beq o))).set o ob) st.g st.pin
def growK (st : St) (o : Nat) (ob : Obj) (K : St → Prop) : Prop :=
  match st with
  | ⟨env, nt, objs, g, pin⟩ => killEK (Nat.beq o) env fun e => killOK (Nat.beq o) objs fun l => setOK l o ob fun l => K ⟨e, nt, l, g, pin⟩
theorem growK_out {st : St} {o : Nat} {ob : Obj} {K : St → Prop} (h : growK st o ob K) : K (st.grow o ob) := by
  obtain ⟨env, nt, objs, g, pin⟩ := st
  exact setOK_out (killOK_out (killEK_out h))

/-! ### The rules -/
def allocD (P : Program) (st : St) (dst : Option Nat) (t : TypeId) (K : St → Prop) : Prop :=
  zeroD P t fun z => pushK st (.box z) fun n st => putK st dst (.hp n 0) K
def boxD (st : St) (dst : Option Nat) (x : D) (K : St → Prop) : Prop :=
  bif okCells x then pushK st (.box x.cells) fun n st => putK st dst (.hp n 0) K else False

def setLK : List D → Nat → List D → (List D → Prop) → Prop
  | _ :: r, 0, d :: ds, K => setLK r 0 ds fun l => K (d :: l)
  | l, 0, [], K => K l
  | c :: r, n + 1, ds, K => setLK r n ds fun l => K (c :: l)
  | [], _, _, K => K []
theorem setLK_out : ∀ {l : List D} {n : Nat} {ds : List D} {K : List D → Prop}, setLK l n ds K → K (setL l n ds)
  | _ :: r, 0, d :: ds, K, h => setLK_out (l := r) (n := 0) (ds := ds) (K := fun l => K (d :: l)) h
  | l, 0, [], K, h => by
    have e : setL l 0 ([] : List D) = l := by cases l <;> rfl
    rw [e]
    cases l <;> exact h
  | c :: r, n + 1, ds, K, h => by
    have e : setL (c :: r) (n + 1) ds = c :: setL r n ds := by cases ds <;> rfl
    rw [e]
    have h' : setLK r n ds fun l => K (c :: l) := by cases ds <;> exact h
    exact setLK_out (l := r) (n := n) (ds := ds) (K := fun l => K (c :: l)) h'
  | [], 0, _ :: _, K, h => h
  | [], n + 1, ds, K, h => by
    have e : setL ([] : List D) (n + 1) ds = [] := by cases ds <;> rfl
    rw [e]
    cases ds <;> exact h

def storeD (P : Program) (st : St) (t : TypeId) (a x : D) (K : St → Prop) : Prop :=
  match Nat.beq x.cells.length (P.cellsOf t) && Nat.blt 0 (P.cellsOf t) && okCells x with
  | true => match a with
    | .hp o k => match st.obj o with
      | .box cs => bif Nat.ble (k + x.cells.length) cs.length then setLK cs k x.cells fun l => setK st o (.box l) K else False
      | _ => False
    | .hr o s i k => match st.obj o with
      | .row e s' es => bif Nat.beq s s' && Nat.ble (k + x.cells.length) s && x.cells.all noH0 then ElemS es i fun c => setLK c k x.cells fun l => setK st o (.row e s' (es.set i l)) K else False
      | _ => False
    | _ => False
  | false => False

@[irreducible] def MakeS (l c : Int) (bytes : Nat) (K : Nat → Prop) : Prop := 0 ≤ l ∧ l ≤ c ∧ (bytes : Int) * c ≤ 281474976710656 ∧ c ≤ 9223372036854775807 ∧ K l.toNat
theorem MakeS.mk {l c : Int} {bytes : Nat} {K : Nat → Prop} (h : 0 ≤ l ∧ l ≤ c ∧ (bytes : Int) * c ≤ 281474976710656 ∧ c ≤ 9223372036854775807 ∧ K l.toNat) : MakeS l c bytes K := by unfold MakeS; exact h
theorem MakeS.out {l c : Int} {bytes : Nat} {K : Nat → Prop} (h : MakeS l c bytes K) : 0 ≤ l ∧ l ≤ c ∧ (bytes : Int) * c ≤ 281474976710656 ∧ c ≤ 9223372036854775807 ∧ K l.toNat := by unfold MakeS at h; exact h

def makeD (P : Program) (st : St) (dst : Option Nat) (t : TypeId) (l c : D) (K : St → Prop) : Prop :=
  match P.underlying t with
  | some (.slice e) => zeroD P e fun z => bif Nat.beq z.length (P.cellsOf e) && z.all noH0 && Nat.blt 0 (P.cellsOf e) then
    (match l, c with
    | .int _ l, .int _ c => MakeS l c (P.bytesOf e) fun n => pushK st (.row e (P.cellsOf e) (List.replicate n z)) fun m st => putK st dst (.h m) K
    | _, _ => False) else False
  | _ => False

def forceL : List D → (List D → Prop) → Prop
  | [], K => K []
  | d :: r, K => force d fun d => forceL r fun l => K (d :: l)
theorem forceL_out : ∀ {l : List D} {K : List D → Prop}, forceL l K → K l
  | [], _, h => h
  | d :: r, K, h => forceL_out (l := r) (K := fun l => K (d :: l)) (force_out h)

def rowsK (s : Nat) : Nat → List (Nat × D) → (List (List D) → Prop) → Prop
  | _, [], K => K []
  | i, (j, d) :: r, K => bif Nat.beq i j && Nat.beq d.cells.length s && okCells d && d.cells.all noH0 then forceL d.cells fun c => rowsK s (i + 1) r fun l => K (c :: l) else False

def buildSliceD (P : Program) (st : St) (dst : Option Nat) (t : TypeId) (len : Nat) (parts : List (Nat × D)) (K : St → Prop) : Prop :=
  match P.underlying t with
  | some (.slice e) => zeroD P e fun z => bif Nat.beq z.length (P.cellsOf e) && Nat.blt 0 (P.cellsOf e) && Nat.beq parts.length len && Nat.ble (len * P.cellsOf e) 16777216 then
    rowsK (P.cellsOf e) 0 parts fun es => pushK st (.row e (P.cellsOf e) es) fun m st => putK st dst (.h m) K else False
  | _ => False

/-- The elements of a slice that is read. -/
def elemsD (st : St) (s : Nat) (x : D) (K : List (List D) → Prop) : Prop :=
  match x with
  | .sl s' es => bif Nat.beq s' s then K es else False
  | .h o => match st.obj o with
    | .row _ s' es => bif Nat.beq s' s then K es else False
    | _ => False
  | .hs o s2 a b => match st.obj o with
    | .row _ s' es => bif Nat.beq s' s && Nat.beq s2 s then NeedS (b ≤ es.length) (K ((es.drop a).take (b - a))) else False
    | .blk _ s' es _ => bif Nat.beq s' s && Nat.beq s2 s then NeedS (b ≤ es.length) (K ((es.drop a).take (b - a))) else False
    | _ => False
  | .v (.slice none 0 0) => K []
  | _ => False

def appendD (P : Program) (st : St) (dst : Option Nat) (t : TypeId) (b x : D) (K : St → Prop) : Prop :=
  match P.underlying t with
  | some (.slice e) => zeroD P e fun z => bif Nat.beq z.length (P.cellsOf e) && Nat.blt 0 (P.cellsOf e) && Nat.blt 0 (P.bytesOf e) then
    elemsD st (P.cellsOf e) x fun xs =>
      (match b with
      | .h o => match st.obj o with
        | .row e' s es => bif Nat.beq e e' && Nat.beq s (P.cellsOf e) && Nat.ble st.pin o then
            AskS ((es.length + xs.length) * P.bytesOf e ≤ 140737488355328) (growK st o (.row e' s (es ++ xs)) fun st => putK st dst (.h o) K) else False
        | _ => False
      | .v (.slice none 0 0) => AskS (xs.length * P.bytesOf e ≤ 140737488355328) (pushK st (.row e (P.cellsOf e) xs) fun m st => putK st dst (.h m) K)
      | _ => False) else False
  | _ => False
end Go.Eng
