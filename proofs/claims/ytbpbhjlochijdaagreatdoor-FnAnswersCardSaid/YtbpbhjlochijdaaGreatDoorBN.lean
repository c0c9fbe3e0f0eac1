/-
  The program's NotesText.
  No conditions.
-/
import Derived.Test.YtbpbhjlochijdaaGreatDoorED
import Derived.Test.YtbpbhjlochijdaaGreatDoorBW
import Derived.Test.YtbpbhjlochijdaaGreatDoorNV
set_option linter.unusedVariables false
set_option linter.unusedSimpArgs false
set_option maxHeartbeats 4000000
namespace Go.Eng
open Go Go.RowKit Go.Proofs
set_option maxRecDepth 100000
/-- The line of a note. -/
def lineN (x : TNote) : List UInt8 := x.fId ++ [32] ++ x.fText ++ [10]
def textN (a : List TNote) : List UInt8 := (a.map lineN).flatten
theorem textN_take {a : List TNote} {k : Nat} {x : TNote} (h : a[k]? = some x) : textN (a.take (k + 1)) = textN (a.take k) ++ lineN x := by
  simp [textN, List.take_add_one, h]
theorem lineN_len {x : TNote} (h : validN x = true) : (lineN x).length ≤ 212 := by
  simp only [validN, nameB, textB, Bool.and_eq_true, decide_eq_true_eq] at h
  simp only [lineN, List.length_append, List.length_cons, List.length_nil]
  omega
theorem textN_len : ∀ {a : List TNote}, (∀ x ∈ a, validN x = true) → (textN a).length ≤ 212 * a.length
  | [], _ => by simp [textN]
  | x :: a, h => by
    have h1 := lineN_len (h x (by simp))
    have h2 := textN_len (a := a) fun y hy => h y (by simp [hy])
    have e : textN (x :: a) = lineN x ++ textN a := rfl
    rw [e, List.length_append, List.length_cons]
    omega
theorem c_impl_NotesText_bad (a : List TNote) (hv : validNs a = false) : FnC Tryz.prog 18 G0 0 [] [.sl 2 (a.map encNote)] (fun d os => d = .str [] ∧ os = []) := by
  refine fn_rule Tryz.func18 rfl (by decide +kernel) rfl (fun w0 F0 lent β0 => ?_)
  repeat' (first | refine sC ?_ | ((with_reducible refine isAwp ?_); first | (refine sS ?_; intro Q' hn he hr) | refine sA ?_) | (refine sH ?_; clear hn he hr Q') | refine sO ?_ | ((conv => whnf); first | refine sK ?_ | (refine sB ?_; repeat' (first | refine sb0 ?_ | (refine sb2 ?_ ?_ <;> intro hb <;> try exact cls))) | ((with_reducible refine isCall ?_); first | (refine call_pure (c_impl_ValidNotes _) rfl rfl ?_)) | ((with_reducible refine isCallQ ?_); first | (refine callQ_pure (c_impl_ValidNotes _) rfl rfl ?_)) | refine sP ?_ | (refine sE ?_; intro x hx) | (refine sF ?_; intro i y hi hy) | (refine sI ?_; intro i hi) | (refine sL ?_; intro hlen) | (refine sQ ?_; intro c hc hcm; try simp only [lnM, lnA, lnC, lnN] at hc) | (refine sX ?_; intro i1 i2 hi1 hi2 hj1 hj2; try simp only [cutL, lnM, lnA, lnC, lnN, lnT, lnD, lnR] at hi1 hi2 hj2) | refine sD ?_ | (refine ret_pick [] rfl rfl rfl ⟨?_, rfl⟩; conv => lhs; whnf) | (refine ret_pick [0] rfl rfl rfl ⟨rfl, ?_⟩) | (refine sH ?_; clear hn he hr Q')))
  all_goals rfl
/-- What a list of notes holds, cell by cell. -/
theorem notes_cells {F : Nat → Prop} {w : World} {v : Value} {a : List TNote} (h : RO F w v (.sl 2 (a.map encNote))) :
    (a = [] ∧ ∃ ad c, v = .slice ad 0 c) ∨ ∃ b off cap, v = .slice (some ⟨b, off, none⟩) a.length cap ∧ F b ∧ a.length ≤ cap ∧ cap ≤ maxLen ∧ ∀ i x, a[i]? = some x → w.cell? ⟨b, off + i * 2, none⟩ = some (.string ⟨x.fId.toArray⟩) ∧ w.cell? ⟨b, off + i * 2 + 1, none⟩ = some (.string ⟨x.fText.toArray⟩) := by
  rcases h.sl_cases with ⟨he, ad, c, hv⟩ | ⟨b, off, cap, c, hv, hF, hcap, hm, hs, hc, hr⟩
  · left
    exact ⟨by simpa using he, ad, c, hv⟩
  · right
    refine ⟨b, off, cap, by simpa using hv, hF, by simpa using hcap, hm, fun i x hx => ?_⟩
    have hi : i < (a.map encNote).length := by simpa using (List.getElem?_eq_some_iff.1 hx).1
    have e : (a.map encNote).getD i [] = encNote x := by simp [List.getD_eq_getElem?_getD, hx]
    have h0 := hr i 0 hi (by omega)
    have h1 := hr i 1 hi (by omega)
    rw [e] at h0 h1
    have c0 := (Rep.ro (β := fun _ => none) _ _ (show RO F w (c i 0) (.str x.fId) from h0)).str_inv
    have c1 := (Rep.ro (β := fun _ => none) _ _ (show RO F w (c i 1) (.str x.fText) from h1)).str_inv
    exact ⟨by rw [← c0]; exact (hc i 0 hi (by omega)).1, by rw [← c1]; exact (hc i 1 hi (by omega)).1⟩
set_option maxHeartbeats 4000000 in
theorem c_impl_NotesText_ok (a : List TNote) (hv : validNs a = true) : FnC Tryz.prog 18 G0 0 [] [.sl 2 (a.map encNote)] (fun d os => d = .str (textN a) ∧ os = []) := by
  obtain ⟨hl, hval, _⟩ := validNs_iff.1 hv
  have hV := c_impl_ValidNotes a
  rw [hv] at hV
  refine FnC.of_calls (callFunc_enter Tryz.func18 rfl (by decide +kernel)) fun w F vs hF hln hro hG => ?_
  have hvs : vs = [vs.getD 0 undef] := by
    match vs, hln with
    | [v], _ => rfl
  have hr0 : RO (fun b => b < w.heap.size) w (vs.getD 0 undef) (.sl 2 (a.map encNote)) := (hro 0 Nat.zero_lt_one).mono fun b hb => ⟨hF b hb, rfl⟩
  generalize vs.getD 0 undef = v at *
  subst hvs
  have hCall : Calls Tryz.prog 37 #[v] w fun e w' => e = .returned (.bool true) ∧ Below w.heap.size w w' :=
    hV.truthG (vs := [v]) rfl (fun g cs h => by cases h) (fun i hi => by
      have e0 : i = 0 := by simpa using hi
      subst e0
      exact hr0)
  rcases notes_cells hr0 with ⟨rfl, ad, c, rfl⟩ | ⟨g, off, cap, rfl, hg, hcap, hcm, hcell⟩
  · show Calls Tryz.prog 18 #[_] w _
    go_enter Tryz.func18, Tryz.ntmps18
    go_wp2_with (go_at_call 37; refine hCall.mono ?_)
    rintro e W1 ⟨rfl, b1⟩
    go_wp2
    go_loopw [11] (fun i wr => i = .int .i64 0 ∧ Lib.IsBuilderF 95 5 W1.heap.size W1.heap.size (Lib.byteCells []) wr ∧ Below W1.heap.size W1 wr) (fun i _ => 0)
    case atStart => exact ⟨rfl, Lib.IsBuilderF.of (Lib.fresh_isBuilder 95 5 W1), (Below.refl _ W1).alloc (Nat.le_refl _) _⟩
    case round =>
      obtain ⟨rfl, hI, hB⟩ := hrel
      go_wp2_with (go_at_call 59; refine (Tryz.Builder_String_any_f W1.heap.size W1.heap.size [] _ hI (by have := hB.size; simpa using this)).mono ?_)
      rintro e W2 ⟨rfl, h2, b2⟩
      go_wp2
      go_ret
      refine ⟨_, rfl, below_grown0 (b1.trans ((hB.trans b2).mono b1.size)), ?_⟩
      exact .str _ (by decide)
  · show Calls Tryz.prog 18 #[_] w _
    go_enter Tryz.func18, Tryz.ntmps18
    go_wp2_with (go_at_call 37; refine hCall.mono ?_)
    rintro e W1 ⟨rfl, b1⟩
    go_wp2
    go_loopw [11] (fun i wr => ∃ k : Nat, i = .int .i64 k ∧ k ≤ a.length ∧ Lib.IsBuilderF 95 5 W1.heap.size W1.heap.size (Lib.byteCells (textN (a.take k))) wr ∧ Below W1.heap.size W1 wr) (fun i _ => a.length - (RowKit.intOf i).toNat)
    case atStart =>
      refine ⟨0, rfl, Nat.zero_le _, ?_, (Below.refl _ W1).alloc (Nat.le_refl _) _⟩
      exact Lib.IsBuilderF.of (Lib.fresh_isBuilder 95 5 W1)
    case round =>
      obtain ⟨k, rfl, hk, hI, hB⟩ := hrel
      by_cases hkl : k < a.length
      · obtain ⟨x, hx⟩ : ∃ x, a[k]? = some x := ⟨_, List.getElem?_eq_getElem hkl⟩
        obtain ⟨h0, h1⟩ := hcell k x hx
        have hgw : wr.heap[g]? = w.heap[g]? := (hB.block g (Nat.lt_of_lt_of_le hg b1.size)).trans (b1.block g hg)
        rw [← cell?_heap (a := ⟨g, off + k * 2, none⟩) hgw] at h0
        rw [← cell?_heap (a := ⟨g, off + k * 2 + 1, none⟩) hgw] at h1
        have hvx := hval x (List.mem_of_getElem? hx)
        have hll := lineN_len hvx
        simp only [lineN, List.length_append, List.length_cons, List.length_nil] at hll
        have htl : (textN (a.take k)).length ≤ 212 * (a.take k).length := textN_len fun y hy => hval y (List.mem_of_mem_take hy)
        rw [List.length_take] at htl
        have hsz : W1.heap.size ≤ wr.heap.size := by have := hB.size; simpa using this
        have hI2 := hI.alloc (.cells #[.string ⟨x.fId.toArray⟩, .string ⟨x.fText.toArray⟩] 39)
        go_wp2_with (go_at_call 58; refine (Tryz.bw_write W1.heap.size W1.heap.size _ _ _ hI2 ?c1 ?c2).mono ?_)
        case c1 =>
          have e : (({ data := x.fId.toArray } : ByteArray) ++ { data := #[32] } ++ { data := x.fText.toArray } ++ { data := #[10] }) = ⟨(lineN x).toArray⟩ := ByteArray.ext (by simp [lineN])
          rw [Lib.byteCells_length, e]
          have h9 : (⟨(lineN x).toArray⟩ : ByteArray).size = (lineN x).length := by simp [ByteArray.size]
          rw [h9, lineN]
          simp only [List.length_append, List.length_cons, List.length_nil]
          omega
        case c2 => simp; omega
        rintro e W2 ⟨rfl, h2, b2, k2⟩
        go_wp2
        have e : (({ data := x.fId.toArray } : ByteArray) ++ { data := #[32] } ++ { data := x.fText.toArray } ++ { data := #[10] }) = ⟨(lineN x).toArray⟩ := ByteArray.ext (by simp [lineN])
        rw [e] at h2
        refine ⟨⟨k + 1, rfl, by omega, ?_, (hB.alloc hsz _).trans b2⟩, ?_⟩
        · rw [textN_take hx, Lib.byteCells_append]
          exact Or.inr h2
        · simp only [RowKit.intOf]
          omega
      · go_wp2_with (go_at_call 59; refine (Tryz.Builder_String_any_f W1.heap.size W1.heap.size (textN (a.take k)) _ hI (by have := hB.size; simpa using this)).mono ?_)
        rintro e W2 ⟨rfl, h2, b2⟩
        go_wp2
        go_ret
        obtain rfl : k = a.length := by omega
        rw [List.take_length]
        refine ⟨_, rfl, below_grown0 (b1.trans ((hB.trans b2).mono b1.size)), ?_⟩
        exact .str _ (by have := textN_len hval; unfold maxLen; omega)
end Go.Eng
