/-
  The engine, seventh part. The rules of all pure operations together, and that the model follows them.
  No conditions.
-/
import Derived.Test.YthhmhmbdfahkjaaEng6
namespace Go.Eng
open Go Go.RowKit

def pickD (c a b : D) (K : D → Prop) : Prop :=
  match c with
  | .bool cb => match a, b with
    | .bool x, .bool y => K (.bool (bif cb then x else y))
    | a, b => (cb = true → K a) ∧ (cb = false → K b)
  | _ => False

def nilD (x : D) (K : D → Prop) : Prop :=
  match x with
  | .rp cs => K (.rp cs)
  | .hp o k => K (.hp o k)
  | .hr o s i k => K (.hr o s i k)
  | .clo (.func f) ds => K (.clo (.func f) ds)
  | _ => False

def unD (op : UnOp) (x : D) (K : D → Prop) : Prop :=
  match op, x with
  | .not, .bool b => K (.bool (!b))
  | .neg, .int k n => ArithS k (0 - n) fun m => K (.int k m)
  | .xor, .int k n => K (.int k (bitsD .xor k (if k.signed then -1 else k.max) n))
  | _, _ => False

/-- The bytes of a list of elements of one byte each. -/
def byteE (c : UInt8) : List D := [.int .u8 c.toNat]
@[irreducible] def BytesS (es : List (List D)) (K : List UInt8 → Prop) : Prop := ∃ l, es = l.map byteE ∧ K l
theorem BytesS.mk {es : List (List D)} {K : List UInt8 → Prop} (h : ∃ l, es = l.map byteE ∧ K l) : BytesS es K := by unfold BytesS; exact h
theorem BytesS.out {es : List (List D)} {K : List UInt8 → Prop} (h : BytesS es K) : ∃ l, es = l.map byteE ∧ K l := by unfold BytesS at h; exact h

def isU8 (P : Program) (e : TypeId) : Bool :=
  match P.underlying e with
  | some (.int .u8) => true
  | _ => false

def convD (P : Program) (st : St) (src dst : TypeId) (x : D) (K : D → Prop) : Prop :=
  match P.underlying src, P.underlying dst with
  | some u, some (.int k) => match x with
    | .int _ n => ArithS k n fun m => K (.int k m)
    | _ => False
  | some .string, some .string => match x with
    | .str l => K (.str l)
    | _ => False
  | some (.slice e), some .string => match isU8 P e with
    | true => match x with
      | .sl s es => bif Nat.beq s 1 then BytesS es fun l => K (.str l) else False
      | .h o => match st.obj o with
        | .row _ s es => bif Nat.beq s 1 then BytesS es fun l => K (.str l) else False
        | _ => False
      | .v (.slice none 0 0) => K (.str [])
      | _ => False
    | false => False
  | _, _ => False

def fieldAddrD (P : Program) (s : TypeId) (x : D) (f : Nat) (K : D → Prop) : Prop :=
  match P.underlying s with
  | some (.struct fields) => match fields[f]? with
    | some fd => match Nat.beq (P.cellsOf fd.type) 0 with
      | true => False
      | false => match x with
        | .rp cs => dropK cs fd.offset fun r => K (.rp r)
        | .hp o k => K (.hp o (k + fd.offset))
        | .hr o s i k => K (.hr o s i (k + fd.offset))
        | _ => False
    | none => False
  | _ => False

def partD (P : Program) (t : TypeId) (cs : List D) (off : Nat) (K : D → Prop) : Prop := loadD P t cs off K

def fieldD (P : Program) (t : TypeId) (x : D) (f : Nat) (K : D → Prop) : Prop :=
  match P.underlying t with
  | some (.struct fields) => match fields[f]? with
    | some fd => match x with
      | .agg cs => partD P fd.type cs fd.offset K
      | _ => False
    | none => False
  | _ => False

def chunk (s : Nat) : Nat → List D → List (List D)
  | 0, _ => []
  | n + 1, cs => cs.take s :: chunk s n (cs.drop s)

def indexAddrD (P : Program) (st : St) (t : TypeId) (x i : D) (K : D → Prop) : Prop :=
  match P.underlying t with
  | some (.slice e) => match x, i with
    | .sl s es, .int _ n => bif Nat.beq s (P.cellsOf e) && Nat.blt 0 s then ElemS es n fun c => K (.rp c) else False
    | .h o, .int _ n => match st.obj o with
      | .row _ s es => bif Nat.beq s (P.cellsOf e) && Nat.blt 0 s then InS n es.length fun j => K (.hr o s j 0) else False
      | _ => False
    | .hs o s' a b, .int _ n => match st.obj o with
      | .row _ s es => bif Nat.beq s s' && Nat.beq s (P.cellsOf e) && Nat.blt 0 s then InS n (b - a) fun j => K (.hr o s (a + j) 0) else False
      | _ => False
    | _, _ => False
  | some (.array len e) => match x, i with
    | .rp cs, .int _ n => bif Nat.blt 0 (P.cellsOf e) && Nat.ble (len * P.cellsOf e) cs.length then ElemS (chunk (P.cellsOf e) len cs) n fun c => K (.rp c) else False
    | .hp o k, .int _ n => bif Nat.blt 0 (P.cellsOf e) then InS n len fun j => K (.hp o (k + j * P.cellsOf e)) else False
    | _, _ => False
  | _ => False

def indexD (P : Program) (t : TypeId) (x i : D) (K : D → Prop) : Prop :=
  match P.underlying t with
  | some .string => match x, i with
    | .str l, .int _ n => ByteS l n fun c => K (.int .u8 c.toNat)
    | _, _ => False
  | some (.array len e) => match x, i with
    | .agg cs, .int _ n => bif Nat.blt 0 (P.cellsOf e) && Nat.ble (len * P.cellsOf e) cs.length then ElemS (chunk (P.cellsOf e) len cs) n fun c => partD P e c 0 K else False
    | _, _ => False
  | _ => False

def cutL {α : Type} (l : List α) : Option Nat → Option Nat → List α
  | none, none => l
  | some a, none => l.drop a
  | none, some b => l.take b
  | some a, some b => (l.drop a).take (b - a)

def cutD (lo hi : Option D) (n : Nat) (K : Option Nat → Option Nat → Prop) : Prop :=
  match lo, hi with
  | none, none => K none none
  | some (.int _ a), none => CutS a n n fun x _ => K (some x) none
  | none, some (.int _ b) => CutS 0 b n fun _ y => K none (some y)
  | some (.int _ a), some (.int _ b) => CutS a b n fun x y => K (some x) (some y)
  | _, _ => False

/-- What the walk has to show. -/
@[irreducible] def NeedS (p K : Prop) : Prop := p ∧ K
theorem NeedS.mk {p K : Prop} (h : p) (k : K) : NeedS p K := by unfold NeedS; exact ⟨h, k⟩
theorem NeedS.out {p K : Prop} (h : NeedS p K) : p ∧ K := by unfold NeedS at h; exact h
/-- Bounds of a slice that may reach beyond its length n, up to c. -/
def cutC (lo hi : Option D) (n c : Nat) (K : Nat → Nat → Prop) : Prop :=
  match lo, hi with
  | none, none => K 0 n
  | some (.int _ a), none => CutS a n n fun x _ => K x n
  | none, some (.int _ b) => CutS 0 b c fun _ y => K 0 y
  | some (.int _ a), some (.int _ b) => CutS a b c fun x y => K x y
  | _, _ => False
def sliceD (P : Program) (st : St) (t : TypeId) (x : D) (lo hi mx : Option D) (K : D → Prop) : Prop :=
  match mx with
  | some m => match P.underlying t with
    | some (.slice e) => bif Nat.blt 0 (P.cellsOf e) then
      (match lo, hi, m with
      | some (.int _ a), some (.int _ b), .int _ c => match x with
        | .sl _ es => NeedS (0 ≤ a ∧ a ≤ b ∧ b ≤ c ∧ c ≤ es.length) (K .junk)
        | .h o => match st.obj o with
          | .row _ _ es => NeedS (0 ≤ a ∧ a ≤ b ∧ b ≤ c ∧ c ≤ es.length) (K .junk)
          | _ => False
        | .hs _ _ p q => NeedS (0 ≤ a ∧ a ≤ b ∧ b ≤ c ∧ c ≤ (q - p : Nat)) (K .junk)
        | _ => False
      | _, _, _ => False) else False
    | _ => False
  | none => match P.underlying t with
    | some .string => match x with
      | .str l => cutD lo hi l.length fun a b => K (.str (cutL l a b))
      | _ => False
    | some (.slice e) => match x with
      | .sl s es => bif Nat.beq s (P.cellsOf e) && Nat.blt 0 s then cutD lo hi es.length fun a b => K (.sl s (cutL es a b)) else False
      | .h o => match st.obj o with
        | .row _ s es => bif Nat.beq s (P.cellsOf e) && Nat.blt 0 s then cutC lo hi es.length es.length fun a b => K (.hs o s a b) else False
        | _ => False
      | .hs o s' a0 b0 => match st.obj o with
        | .row _ s es => bif Nat.beq s s' && Nat.beq s (P.cellsOf e) && Nat.blt 0 s then NeedS (b0 ≤ es.length) (cutC lo hi (b0 - a0) (es.length - a0) fun a b => K (.hs o s (a0 + a) (a0 + b))) else False
        | .blk _ s _ c => bif Nat.beq s s' && Nat.beq s (P.cellsOf e) && Nat.blt 0 s then NeedS (b0 ≤ c) (cutC lo hi (b0 - a0) (c - a0) fun a b => K (.hs o s (a0 + a) (a0 + b))) else False
        | _ => False
      | _ => False
    | _ => False

def setL {α : Type} : List α → Nat → List α → List α
  | _ :: r, 0, d :: ds => d :: setL r 0 ds
  | l, 0, [] => l
  | c :: r, n + 1, ds => c :: setL r n ds
  | [], _, _ => []

def fillD (place : Nat → Option (Nat × Nat)) (cells : List D) : List (Nat × D) → (List D → Prop) → Prop
  | [], K => K cells
  | (i, d) :: r, K => match place i with
    | none => False
    | some (off, size) => bif Nat.beq d.cells.length size && Nat.ble (off + size) cells.length && okCells d then fillD place (setL cells off d.cells) r K else False

def flatV : Value → Bool
  | .agg cs => cs.toList.all (·.oneCell')
  | x => x.oneCell'

def zeroD (P : Program) (t : TypeId) (K : List D → Prop) : Prop :=
  match P.info? t with
  | some i => match i.zero with
    | some z => bif flatV z then K (ofV z).cells else False
    | none => False
  | none => False

def placeD (P : Program) (fields : Array Field) (i : Nat) : Option (Nat × Nat) :=
  match fields[i]? with
  | some f => some (f.offset, P.cellsOf f.type)
  | none => none

def buildD (P : Program) (t : TypeId) (parts : List (Nat × D)) (K : D → Prop) : Prop :=
  zeroD P t fun z =>
    match P.underlying t with
    | some (.struct fields) => bif fields.toList.all (fun f => (P.info? f.type).isSome) then fillD (placeD P fields) z parts fun cs => K (.agg cs) else False
    | some (.array _ e) => match P.info? e with
      | some _ => fillD (fun i => some (i * P.cellsOf e, P.cellsOf e)) z parts fun cs => K (.agg cs)
      | none => False
    | _ => False

def lenD (P : Program) (st : St) (t : TypeId) (x : D) (K : D → Prop) : Prop :=
  match P.underlying t with
  | some .string => match x with
    | .str l => LenS l.length fun n => K (.int .i64 n)
    | _ => False
  | some (.slice _) => match x with
    | .sl _ es => LenS es.length fun n => K (.int .i64 n)
    | .h o => match st.obj o with
      | .row _ _ es => LenS es.length fun n => K (.int .i64 n)
      | _ => False
    | .hs o s a b => LenS (b - a) fun n => K (.int .i64 n)
    | .v (.slice none 0 0) => K (.int .i64 0)
    | _ => False
  | some (.array n _) => K (.int .i64 n)
  | _ => False

def minmaxD (mx : Bool) : List D → (D → Prop) → Prop
  | [.int k a, .int _ b], K => K (.int k (bif mx then (if b > a then b else a) else (if b < a then b else a)))
  | _, _ => False

def builtinD (P : Program) (st : St) (b : Builtin) (args : List D) (ts : List TypeId) (K : D → Prop) : Prop :=
  match b, args, ts with
  | .len, [x], [t] => lenD P st t x K
  | .min, l, _ => minmaxD false l K
  | .max, l, _ => minmaxD true l K
  | _, _, _ => False

def pureD (P : Program) (o : Oper) (st : St) (K : D → Prop) : Prop :=
  match o.op with
  | .move x => K (st.ev x)
  | .assign x => K (st.ev x)
  | .pick c a b => pickD (st.ev c) (st.ev a) (st.ev b) K
  | .load t a => ptrLoad P st t (st.ev a) K
  | .nilCheck x => nilD (st.ev x) K
  | .binOp op t x y _ => binD P t op (st.ev x) (st.ev y) K
  | .unOp op _ x => unD op (st.ev x) K
  | .convert s d x => convD P st s d (st.ev x) K
  | .fieldAddr s x f => fieldAddrD P s (st.ev x) f K
  | .field t x f => fieldD P t (st.ev x) f K
  | .indexAddr t x i => indexAddrD P st t (st.ev x) (st.ev i) K
  | .index t x i => indexD P t (st.ev x) (st.ev i) K
  | .slice t x lo hi mx => match P.underlying t with
    | some (.array _ _) => False
    | _ => sliceD P st t (st.ev x) (lo.map st.ev) (hi.map st.ev) (mx.map st.ev) K
  | .build t parts => buildD P t (parts.toList.map fun p => (p.1, st.ev p.2)) K
  | .extract x i => match st.ev x with
    | .tup ds => nthK ds i K
    | _ => False
  | .makeFunc fn first captured => match first.toList with
    | [] => K (.clo fn (captured.toList.map st.ev))
    | _ => False
  | .call c => match c.callee with
    | .builtin b => builtinD P st b (c.args.toList.map st.ev) c.argTypes.toList K
    | _ => False
  | _ => False
end Go.Eng
