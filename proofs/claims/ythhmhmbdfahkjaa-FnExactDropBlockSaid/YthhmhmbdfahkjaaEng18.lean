/-
  The engine, eighteenth part. append and calls as operations; all operations together.
  No conditions.
-/
import Derived.Test.YthhmhmbdfahkjaaEngL
namespace Go.Eng
open Go Go.RowKit

section
variable {X : Ctx} {st : St} {β : Nat → Option Value} {a : Act} {w : World} {K : St → Prop} {Q : Exit → Act → World → Prop}

theorem append_sound {o : Oper} {t : TypeId} {s x : Operand} (ho : o.op = .call { callee := .builtin .append, args := #[s, x], argTypes := #[t, t] }) (h : appendD X.P st o.dst t (st.ev s) (st.ev x) K) (hr : Rel X st β a w) :
    o.wp X.P a w (PostR X K) Q := by
  unfold appendD at h
  split at h
  · rename_i e ht
    obtain ⟨z, i, hi, hz, hf, hk, hzr⟩ := zeroD_sound h
    clear h
    cases hb : (Nat.beq (ofV z).cells.length (X.P.cellsOf e) && Nat.blt 0 (X.P.cellsOf e) && Nat.blt 0 (X.P.bytesOf e)) with
    | false => rw [hb] at hk; exact hk.elim
    | true =>
      rw [hb] at hk
      simp only [Bool.and_eq_true] at hb
      obtain ⟨⟨h1, h2⟩, h3⟩ := hb
      have h1 := Nat.eq_of_beq_eq_true h1
      have h2 : 0 < X.P.cellsOf e := by simpa [Nat.blt_eq] using h2
      have h3 : 0 < X.P.bytesOf e := by simpa [Nat.blt_eq] using h3
      have hsz : i.size = X.P.cellsOf e := by simp [Program.cellsOf, hi]
      have hby : i.bytes = X.P.bytesOf e := by simp [Program.bytesOf, hi]
      have hzs : z.cells.size = X.P.cellsOf e := by
        have := (flat_cells (F := fun _ => False) (β := fun _ => none) (w := w) hf).1
        simp only [Array.length_toList] at this
        omega
      simp only [cond_true] at hk
      obtain ⟨xs, hk, hnews⟩ := elemsD_out (X := X) hk h2
      have hnx := hnews β a w hr
      have hes := hr.ev s
      have hexec : ∀ r, (Builtin.append_ #[t, t] o.type #[a.eval s, a.eval x]).run X.P w = r → (execOp a.eval o).run X.P w = r.andThen fun v w' => .ok (.value v) w' := by
        intro r hr
        simp only [execOp, ho, resolve, invoke, builtin, Sem.run_bind, Sem.run_pure, Result.andThen_ok, List.map_toArray, List.map_cons, List.map_nil, hr]
      split at hk
      · rename_i oo hs
        split at hk
        · rename_i e' sz es hob
          cases hb2 : (Nat.beq e e' && Nat.beq sz (X.P.cellsOf e) && Nat.ble st.pin oo) with
          | false => rw [hb2] at hk; exact hk.elim
          | true =>
            rw [hb2] at hk
            simp only [Bool.and_eq_true] at hb2
            obtain ⟨⟨g1, g2⟩, g3⟩ := hb2
            have g1 := Nat.eq_of_beq_eq_true g1
            have g2 := Nat.eq_of_beq_eq_true g2
            have g3 : st.pin ≤ oo := by simpa using g3
            subst g1 g2
            simp only [cond_true] at hk
            obtain ⟨hbytes, hk⟩ := AskS.out hk
            have hk := putK_out (growK_out hk)
            rw [hs] at hes
            have hβ := hes.h_inv
            obtain ⟨v', w', hrun, hg, hwh, hown⟩ := append_row (ty := o.type) ht hi hz hsz hzs h2 (hr.row hob hβ) hnx (by rw [hby]; exact hbytes) (by rw [hby]; exact h3)
            have hn := hr.grow hβ hg hwh g3 (.row e (X.P.cellsOf e) (es ++ xs)) trivial (fun F' _ hF => hown F' hF)
            refine wp_value (v := v') (w' := w') (by rw [hexec _ hrun]; rfl) ⟨_, _, hk, hn.put _ (.h _ _ (by simp))⟩
        · exact hk.elim
      · rename_i hs
        obtain ⟨hbytes, hk⟩ := AskS.out hk
        have hk := putK_out (pushK_out hk)
        rw [hs] at hes
        have hv := hes.v_inv
        have hrow : OwnRow (FX X st β w) w e (X.P.cellsOf e) [] (a.eval s) := by
          rw [hv]
          exact ⟨by simp, fun i hi => by simp at hi, [], World.ownsRow_nil w 0 e _, fun u hu => by simp at hu, fun i j hi => by simp at hi⟩
        obtain ⟨v', w', hrun, hg, hwh, hown⟩ := append_row (ty := o.type) ht hi hz hsz hzs h2 hrow hnx (by rw [hby]; simpa using hbytes) (by rw [hby]; exact h3)
        rw [hv] at hg hwh
        have hn := hr.newRow' (w' := w') (e := e) (s := X.P.cellsOf e) (es := xs) (x := v') hg (fun b hb => (hwh b hb).resolve_left (by simp [blk])) (fun F' hF => by simpa using hown F' hF)
        exact wp_value (v := v') (w' := w') (by rw [hexec _ hrun]; rfl) ⟨_, _, hk, hn.put _ (rep_newh hr (.row e (X.P.cellsOf e) xs) _ _ _)⟩
      · exact hk.elim
  · exact h.elim

theorem call_sound {o : Oper} {c : Call} {f : Operand} {fid : FuncId} {caps : List D} (ho : o.op = .call c) (hc : c.callee = .value f) (hf : st.ev f = .clo (.func fid) caps)
    (h : CallS X fid (c.args.toList.map st.ev ++ caps) st fun d st => force d fun d => putK st o.dst d K) (hr : Rel X st β a w) : o.wp X.P a w (PostR X K) Q := by
  have hef := hr.ev f
  rw [hf] at hef
  obtain ⟨cs, hv, hl, hcaps⟩ := hef.clo_inv
  have hlen : (c.args.toList.map a.eval ++ cs).length = (c.args.toList.map st.ev ++ caps).length := by simp [hl]
  have hreps : ∀ i, i < (c.args.toList.map st.ev ++ caps).length → Rep (FX X st β w) β w ((c.args.toList.map a.eval ++ cs).getD i undef) ((c.args.toList.map st.ev ++ caps).getD i .junk) := fun i hi => by
    rw [List.getD_eq_getElem?_getD, List.getD_eq_getElem?_getD, List.getElem?_append, List.getElem?_append]
    simp only [List.length_map]
    by_cases h1 : i < c.args.toList.length
    · rw [if_pos h1, if_pos h1, List.getElem?_map, List.getElem?_map, List.getElem?_eq_getElem h1]
      exact hr.ev _
    · rw [if_neg h1, if_neg h1, ← List.getD_eq_getElem?_getD, ← List.getD_eq_getElem?_getD]
      refine hcaps _ ?_
      simp only [List.length_append, List.length_map] at hi
      omega
  have hargs : #[] ++ Array.map a.eval c.args ++ cs.toArray = (c.args.toList.map a.eval ++ cs).toArray := by
    apply Array.ext'
    simp
  rcases CallS.out h with ⟨hok, hcall⟩ | ⟨d, hk, hext⟩
  · have hcall := hcall β a w _ hr hlen hreps
    have hexec : (execOp a.eval o).run X.P w = .ok (.enter fid (c.args.toList.map a.eval ++ cs).toArray) w := by
      simp only [execOp, ho, resolve, hc, hv, Deferred.ofValue, invoke, Sem.run_bind, Sem.run_pure, Result.andThen_ok, hargs]
      exact hok _ _
    unfold Oper.wp
    rw [hexec]
    simp only [Oper.upon]
    refine hcall.mono ?_
    rintro e w' ⟨v, d, st', β', rfl, hr', hrep, hk⟩
    exact ⟨_, _, putK_out (force_out hk), hr'.put _ hrep⟩
  · obtain ⟨v, hrun, hrep⟩ := hext β a w _ hr hlen hreps
    have hexec : (execOp a.eval o).run X.P w = .ok (.value v) w := by
      simp only [execOp, ho, resolve, hc, hv, Deferred.ofValue, invoke, Sem.run_bind, Sem.run_pure, Result.andThen_ok, hargs]
      exact hrun
    exact wp_value (v := v) (w' := w) hexec ⟨_, _, putK_out (force_out hk), hr.put _ hrep⟩
end

/-- What an operation does that makes or writes memory, or calls. -/
def effD (X : Ctx) (o : Oper) (st : St) (K : St → Prop) : Prop :=
  match o.op with
  | .alloc t => allocD X.P st o.dst t K
  | .box _ x => boxD st o.dst (st.ev x) K
  | .store t a x => match o.dst with
    | none => match st.ev a with
      | .hr _ _ _ _ => frzPart (st.ev x) st fun st => force (st.ev x) fun dx => storeD X.P st t (st.ev a) dx K
      | _ => force (st.ev x) fun dx => storeD X.P st t (st.ev a) dx K
    | some _ => False
  | .makeSlice t l c => makeD X.P st o.dst t (st.ev l) (st.ev c) K
  | .buildSlice t len parts => frzParts (parts.toList.map fun p => st.ev p.2) st fun st => buildSliceD X.P st o.dst t len (parts.toList.map fun p => (p.1, st.ev p.2)) K
  | .call c => match c.callee with
    | .builtin .append => match c.args.toList, c.argTypes.toList with
      | [s, x], [t, u] => bif Nat.beq t u then
          (match st.ev s with
          | .hs oo s2 a p => appPartD X.P st o.dst t (.hs oo s2 a p) (st.ev x) K
          | d => appendD X.P st o.dst t d (st.ev x) K)
        else appZeroD X.P st o.dst t u (st.ev s) (st.ev x) K
      | _, _ => False
    | .builtin .copy => match c.args.toList, c.argTypes.toList with
      | [s, x], [t, _] => copyD X.P st o.dst t (st.ev s) (st.ev x) K
      | _, _ => False
    | .builtin .clear => match c.args.toList, c.argTypes.toList with
      | [s], [t] => clearD X.P st o.dst t (st.ev s) K
      | _, _ => False
    | .builtin .cap => match c.args.toList, c.argTypes.toList with
      | [s], [t] => match X.P.underlying t with
        | some (.slice _) => capD st o.dst (st.ev s) K
        | _ => False
      | _, _ => False
    | .value f => match st.ev f with
      | .clo (.func fid) caps => CallS X fid (c.args.toList.map st.ev ++ caps) st fun d st => force d fun d => putK st o.dst d K
      | _ => False
    | _ => False
  | _ => False

/-- Is the operation one that leaves memory alone? -/
def isPure : Op → Bool
  | .alloc _ | .box _ _ | .store _ _ _ | .makeSlice _ _ _ | .buildSlice _ _ _ => false
  | .call c => match c.callee with
    | .builtin .append | .builtin .copy | .builtin .clear | .builtin .cap => false
    | .builtin _ => true
    | _ => false
  | _ => true

def opD (X : Ctx) (o : Oper) (st : St) (K : St → Prop) : Prop :=
  match nilQ X.P o.op st with
  | some es => NilS es fun b => putK st o.dst (.bool b) K
  | none => match isPure o.op with
    | true => pureD X.P o st fun d => force d fun d => putK st o.dst d K
    | false => effD X o st K

theorem opD_sound {X : Ctx} {o : Oper} {st : St} {K : St → Prop} {β : Nat → Option Value} {a : Act} {w : World} {Q : Exit → Act → World → Prop} (h : opD X o st K) (hr : Rel X st β a w) : o.wp X.P a w (PostR X K) Q := by
  unfold opD at h
  split at h
  · rename_i es hn
    exact nilQ_sound hn h hr
  rename_i hnil
  clear hnil
  generalize isPure o.op = ip at h
  cases ip with
  | true =>
    obtain ⟨d, hk, hy⟩ := pure_sound hr h
    obtain ⟨v, hv, hrep⟩ := hy β a w hr
    exact wp_value hv ⟨_, _, putK_out (force_out hk), hr.put _ hrep⟩
  | false =>
    simp only at h
    unfold effD at h
    obtain ⟨dst, op, type, pos, after, guard⟩ := o
    cases op <;> simp only at h <;> try (exact h.elim)
    case alloc t => exact alloc_sound rfl h hr
    case box t x => exact box_sound rfl h hr
    case store t p x =>
      cases dst with
      | none =>
        simp only at h
        split at h
        · obtain ⟨st1, β1, h1, hr1⟩ := frzPart_sound h hr
          exact store_sound rfl rfl (force_out (K := fun dx => storeD X.P st1 t (st1.ev p) dx K) h1) hr1
        · exact store_sound rfl rfl (force_out (K := fun dx => storeD X.P st t (st.ev p) dx K) h) hr
      | some d => exact h.elim
    case makeSlice t l c => exact make_sound rfl h hr
    case buildSlice t len parts =>
      obtain ⟨st1, β1, h1, hr1⟩ := frzParts_sound h hr
      exact buildSlice_sound rfl h1 hr1
    case call c =>
      obtain ⟨callee, args, argTypes⟩ := c
      cases callee with
      | invoke r m => exact h.elim
      | value f =>
        simp only at h
        split at h
        · rename_i fid caps hf
          exact call_sound rfl rfl hf h hr
        · exact h.elim
      | builtin b =>
        cases b <;> simp only at h <;> try (exact h.elim)
        case append =>
          obtain ⟨args⟩ := args
          obtain ⟨argTypes⟩ := argTypes
          simp only at h
          split at h
          · rename_i s x t u
            cases hb : Nat.beq t u with
            | false => rw [hb] at h; exact appZero_sound rfl h hr
            | true =>
              rw [hb] at h
              have := Nat.eq_of_beq_eq_true hb
              subst this
              simp only [cond_true] at h
              split at h
              · rename_i hs
                exact appPart_sound rfl (by rw [hs]; exact h) hr
              · exact append_sound rfl h hr
          · exact h.elim
        case copy =>
          obtain ⟨args⟩ := args
          obtain ⟨argTypes⟩ := argTypes
          simp only at h
          split at h
          · exact copy_sound rfl h hr
          · exact h.elim
        case clear =>
          obtain ⟨args⟩ := args
          obtain ⟨argTypes⟩ := argTypes
          simp only at h
          split at h
          · exact clear_sound rfl h hr
          · exact h.elim
        case cap =>
          obtain ⟨args⟩ := args
          obtain ⟨argTypes⟩ := argTypes
          simp only at h
          split at h
          · split at h
            · rename_i ht
              exact cap_sound ht rfl h hr
            · exact h.elim
          · exact h.elim
end Go.Eng
