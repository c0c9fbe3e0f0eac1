/-
  The program's SameNotes returns what the reference's returns, for all arguments.
  No conditions.
-/
import Derived.Test.YtikdfigokjhdgaaN1
import Derived.Test.YtikdfigokjhdgaaRows
import Derived.Test.YtikdfigokjhdgaaChecked
import Derived.ProofKit
import Derived.OpenShut
import Derived.ShutString
import Derived.ChangeOld
namespace Go.Eng
open Go Go.RowKit Go.Proofs
set_option maxRecDepth 100000

def okNote (x : TNote) : Prop := (fun l : List UInt8 => l.length ≤ maxLen) x.fId ∧ (fun l : List UInt8 => l.length ≤ maxLen) x.fText
theorem c_impl_SameNotes (a b : List TNote) : FnC Try.prog 10 G0 0 [] [.sl 2 (a.map encNote), .sl 2 (b.map encNote)] (fun d os => d = .bool (eqL eqTNote a b) ∧ os = []) := by
  refine fn_rule Try.func10 rfl (by decide +kernel) rfl (fun w0 F0 lent β0 => ?_)
  repeat' (first
           | (with_reducible refine awp_seq_k (fun Q' hn he hr => ?_))
           | (with_reducible refine awp_block_k (fun Q' hn he hr => ?_))
           | (with_reducible refine awp_cond_k ?_)
           | (with_reducible refine awp_region_k ?_)
           | (with_reducible refine awp_draw_k ?_)
           | (with_reducible refine awp_ret_k ?_)
           | (with_reducible refine awp_exit_k ?_)
           | (with_reducible refine awp_skip_k ?_)
           | (with_reducible refine awp_label_k ?_)
           | (with_reducible refine awp_scope_k ?_)
           | (with_reducible refine awp_loop_k ?_)
           | (with_reducible refine hn _ ?_; clear hn he hr Q')
           | (with_reducible refine hr _ ?_; clear hn he hr Q')
           | (with_reducible refine he _ _ ?_; clear hn he hr Q')
           | (conv => whnf
              first
              | (with_reducible refine gtt ?_) | (with_reducible refine gft ?_) | (with_reducible refine gtf ?_) | (with_reducible refine gff ?_) | (with_reducible refine ct ?_) | (with_reducible refine cf ?_)
              | ((first | (with_reducible refine gsym (fun hb => ?_) (fun hb => ?_)) | (with_reducible refine gsymf (fun hb => ?_) (fun hb => ?_)) | (with_reducible refine csym (fun hb => ?_) (fun hb => ?_))) <;> (try simp only [decide_eq_true_eq, decide_eq_false_iff_not, Int.natCast_inj, Int.not_le, Int.not_lt, Bool.not_eq_true', Bool.not_eq_false'] at hb) <;> (try (exfalso; omega)))
              | (refine LenS.map fun hlen => ?_)
              | (refine call_pure (c_slicesEqual_Note _ _) rfl rfl ?_)
              | (refine LenS.int fun hlen => ?_)
              | (refine ArithS.in64 (by omega) ?_)
              | (refine MakeS.nat rfl (by omega) ?_)
              | (refine InS.fill (by omega) ?_)
              | (refine ElemS.fill (by omega) ?_)
              | (refine InS.nat (by omega) ?_)
              | (refine ElemS.nat (by omega) fun x hx => ?_)
              | (refine ByteS.nat (by omega) fun x hx => ?_)
              | (refine draw_k (by decide +kernel) (by decide +kernel) ?_)
              | (refine ret_pick [] rfl rfl rfl ⟨?_, rfl⟩; conv => lhs; whnf)
              | (refine he _ _ ?_; clear hn he hr Q') | (refine hn _ ?_; clear hn he hr Q') | (refine hr _ ?_; clear hn he hr Q')))
theorem c_FnExactSameNotes (a b : List TNote) (_ : ∀ x ∈ a, okNote x) (_ : ∀ x ∈ b, okNote x) : FnC Try.prog 3 G0 0 [] [.sl 2 (a.map encNote), .sl 2 (b.map encNote)] (fun d os => d = .bool true ∧ os = []) := by
  have ha := szL_len TNote.sz a
  have hbb := szL_len TNote.sz b
  refine fn_rule Try.func3 rfl (by decide +kernel) rfl (fun w0 F0 lent β0 => ?_)
  repeat' (first
           | (with_reducible refine awp_seq_k (fun Q' hn he hr => ?_))
           | (with_reducible refine awp_block_k (fun Q' hn he hr => ?_))
           | (with_reducible refine awp_cond_k ?_)
           | (with_reducible refine awp_region_k ?_)
           | (with_reducible refine awp_draw_k ?_)
           | (with_reducible refine awp_ret_k ?_)
           | (with_reducible refine awp_exit_k ?_)
           | (with_reducible refine awp_skip_k ?_)
           | (with_reducible refine awp_label_k ?_)
           | (with_reducible refine awp_scope_k ?_)
           | (with_reducible refine awp_loop_k ?_)
           | (with_reducible refine hn _ ?_; clear hn he hr Q')
           | (with_reducible refine hr _ ?_; clear hn he hr Q')
           | (with_reducible refine he _ _ ?_; clear hn he hr Q')
           | (conv => whnf
              first
              | (with_reducible refine gtt ?_) | (with_reducible refine gft ?_) | (with_reducible refine gtf ?_) | (with_reducible refine gff ?_) | (with_reducible refine ct ?_) | (with_reducible refine cf ?_)
              | ((first | (with_reducible refine gsym (fun hb => ?_) (fun hb => ?_)) | (with_reducible refine gsymf (fun hb => ?_) (fun hb => ?_)) | (with_reducible refine csym (fun hb => ?_) (fun hb => ?_))) <;> (try simp only [decide_eq_true_eq, decide_eq_false_iff_not, Int.natCast_inj, Int.not_le, Int.not_lt, Bool.not_eq_true', Bool.not_eq_false'] at hb) <;> (try (exfalso; omega)))
              | (refine LenS.map fun hlen => ?_)
              | (refine call_pure (c_szNoteS _ _ (by omega) (by omega)) rfl rfl ?_)
              | (refine call_new (c_toNoteS a (by omega)) rfl (by first | exact (rfl : _ = 0) | exact (rfl : _ = 1) | exact (rfl : _ = 2) | exact (rfl : _ = 3) | exact (rfl : _ = 4) | exact (rfl : _ = 5) | exact (rfl : _ = 6) | exact (rfl : _ = 7)) ?_)
              | (refine call_new (c_toNoteS b (by omega)) rfl (by first | exact (rfl : _ = 0) | exact (rfl : _ = 1) | exact (rfl : _ = 2) | exact (rfl : _ = 3) | exact (rfl : _ = 4) | exact (rfl : _ = 5) | exact (rfl : _ = 6) | exact (rfl : _ = 7)) ?_)
              | (refine call_look (c_spec_SameNotes _ _) rfl ?_)
              | (refine call_look (c_impl_SameNotes _ _) rfl ?_)
              | (refine call_look (c_eqNoteS _ _) rfl ?_)
              | (refine LenS.int fun hlen => ?_)
              | (refine ArithS.in64 (by omega) ?_)
              | (refine MakeS.nat rfl (by omega) ?_)
              | (refine InS.fill (by omega) ?_)
              | (refine ElemS.fill (by omega) ?_)
              | (refine InS.nat (by omega) ?_)
              | (refine ElemS.nat (by omega) fun x hx => ?_)
              | (refine ByteS.nat (by omega) fun x hx => ?_)
              | (refine draw_k (by decide +kernel) (by decide +kernel) ?_)
              | (refine ret_pick [] rfl rfl rfl ⟨?_, rfl⟩; conv => lhs; whnf)
              | (refine he _ _ ?_; clear hn he hr Q') | (refine hn _ ?_; clear hn he hr Q') | (refine hr _ ?_; clear hn he hr Q')))
  · simp at hb
  · rw [eqL_refl eqTNote_refl] at hb; cases hb
  · rw [eqL_refl eqTNote_refl] at hb; cases hb
end Go.Eng

namespace Go.Proofs.Ytikdfigokjhdgaa
open Go Go.ChangeShapes Go.WideShapes Go.ChangeAt Go.RowKit Go.Eng

theorem own : ownKnob Try.prog.godebug = none := by kernel_rfl
theorem laidOut : laidOutB Try.prog = true := by kernel_rfl

theorem opens_String : Opens Try.prog 9 (fun l : List UInt8 => [.str l]) (fun l : List UInt8 => l.length ≤ maxLen) := Opens.string Try.underlying9
theorem opens_Note : Opens Try.prog 54 encNote okNote :=
  Opens.turn (fun x : List UInt8 × List UInt8 × Unit => TNote.mk x.1 x.2.1) (fun _ => rfl) (fun x h => ⟨h.1, h.2.1⟩)
    (Opens.struct 2 Try.underlying54 (by kernel_rfl) (fun _ => rfl) (OpensF.cons (k := 1) rfl (fun _ => rfl) opens_String (OpensF.cons (k := 1) rfl (fun _ => rfl) opens_String OpensF.nil)))
theorem opens_NoteS : Opens Try.prog 22 (fun l : List (TNote) => [.sl 2 (l.map encNote)]) (fun l : List (TNote) => ∀ x ∈ l, okNote x) := Opens.slice 2 Try.underlying22 (by kernel_rfl) (by decide) opens_Note

set_option maxRecDepth 100000 in
theorem lifted (os : Os) (started : os.Started) (H : Type) (enc : TypeId × Value → H) :
    ReturnsInHanded {} Try.checked os 3 .any (Rows.fnExactSameNotesSpec.pre6 enc Try.prog Try.f3 Rows.fnExactSameNotesRow.domain false) (Rows.fnExactSameNotesSpec.post enc Try.prog Try.f3 false true false false) := by
  refine returnsInHanded_of_change (C := Try.checked) own started (by kernel_rfl) Try.func3
    (ChangeSpec.witness6 (enc := enc) (C := Try.checked) false ⟨#[], #[.slice none 0 0, .slice none 0 0], []⟩ 8 (by kernel_rfl) (by kernel_rfl) (by kernel_rfl) (by kernel_rfl)) ?_
  intro W base args ds gs before hval0 hW hcnd _
  have hval : ∀ (j : Nat) t v, Try.f3.params[j]? = some t → args[j]? = some v → Value.okWide Try.prog W .any base t v := hval0
  have hW' := hW
  obtain ⟨p, q, hA0, hV, rfl, hfz, hnd⟩ := hW
  have hA : DataW.TrodAll enc Try.prog W 0 (fun _ => true) true Try.f3.params.toList args.toList ds p := hA0
  rw [Try.params3] at hA hval
  obtain ⟨v0, vs0, d0, ds0, p0, q0, hargs, rfl, rfl, h0, r0⟩ := trodAll_cons hA
  obtain ⟨v1, vs1, d1, ds1, p1, q1, rfl, rfl, rfl, h1, r1⟩ := trodAll_cons r0
  obtain ⟨rfl, rfl, rfl⟩ := trodAll_nil r1
  obtain rfl : args = #[v0, v1] := by cases args; simp_all
  obtain ⟨rfl, rfl⟩ := trodVars_none hV
  have lt0 : ∀ x ∈ p0, x.block < W.heap.size := by obtain ⟨m, hm⟩ := h0; exact DataW.trod_lt m _ _ _ hm
  have lt1 : ∀ x ∈ p1, x.block < W.heap.size := by obtain ⟨m, hm⟩ := h1; exact DataW.trod_lt m _ _ _ hm
  obtain ⟨a0, len0, cap0, rfl⟩ := okWide_slice Try.underlying22 (hval 0 22 v0 rfl rfl)
  obtain ⟨x0, k0, w0⟩ := opens_NoteS.one (by simp [Value.cells]) h0
  obtain ⟨a1, len1, cap1, rfl⟩ := okWide_slice Try.underlying22 (hval 1 22 v1 rfl rfl)
  obtain ⟨x1, k1, w1⟩ := opens_NoteS.one (by simp [Value.cells]) h1
  clear hA0 hval0
  refine ((c_FnExactSameNotes x0 x1 k0 k1).truth (w := W) (vs := [_, _]) rfl (fun i hi => ?_)).mono fun e W' ⟨he, bel⟩ => ?_
  · match i, hi with
    | 0, _ => exact w0
    | 1, _ => exact w1
  subst he
  exact ⟨_, rfl, _, _, _, [], _, [], hW', trodAll_mk1 (shut_bool Try.underlying4 _), (trodAll_cons_mk (Below.trod laidOut (by kernel_rfl) (of_decide_eq_true (by kernel_rfl)) h0 bel lt0) (trodAll_cons_mk (Below.trod laidOut (by kernel_rfl) (of_decide_eq_true (by kernel_rfl)) h1 bel lt1) trodAll_mk0)), rfl, bel.frame _, fun h => by cases h⟩

theorem over : Rows.fnExactSameNotesRow.holds Try.pinned (OpenSpec.ofChange Rows.fnExactSameNotesSpec) :=
  OpenClaim.holds_of_wide 3 Try.f3 rfl rfl rfl rfl rfl rfl rfl ⟨rfl, rfl, rfl, rfl, rfl⟩ rfl rfl rfl rfl rfl (by kernel_rfl) Try.func3 (by kernel_rfl)
    (of_decide_eq_true (by kernel_rfl)) (by unfold Func.isWrapper; first | (rw [if_pos (by decide +kernel)]; kernel_rfl) | (rw [if_neg (by decide +kernel)]; exact ⟨rfl, rfl⟩))
    (fun os started H enc _ => lifted os started H enc)

theorem sameNotes : Rows.FnExactSameNotesSaid := over
#print axioms sameNotes
end Go.Proofs.Ytikdfigokjhdgaa
