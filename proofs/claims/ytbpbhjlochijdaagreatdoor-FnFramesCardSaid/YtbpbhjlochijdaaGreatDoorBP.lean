/-
  The program's SaveBlocks.
  No conditions.
-/
import Derived.Test.YtbpbhjlochijdaaGreatDoorED
import Derived.Test.YtbpbhjlochijdaaGreatDoorBW
import Derived.Test.YtbpbhjlochijdaaGreatDoorSV
set_option linter.unusedVariables false
set_option linter.unusedSimpArgs false
set_option maxHeartbeats 4000000
namespace Go.Eng
open Go Go.RowKit Go.Proofs
set_option maxRecDepth 100000
theorem below_grownP {w w' : World} (h : Below w.heap.size w w') : w.grownBy w' none := ⟨h.os, h.tape, h.output, h.size, fun k hk _ => h.block k hk⟩
/-- What changes no block leaves a builder as it is. -/
theorem builder_below {T e : TypeId} {B b : Nat} {bs : List Value} {w w' : World} (h : Lib.IsBuilderF T e B b bs w) (hb : Below w.heap.size w w') : Lib.IsBuilderF T e B b bs w' := by
  have keep : ∀ (g : Nat) (o : Go.Obj), w.heap[g]? = some o → w'.heap[g]? = some o := fun g o hg => by
    rw [hb.block g (Array.getElem?_eq_some_iff.1 hg).1, hg]
  have one : ∀ p, Lib.BuilderAtF T e B b p bs w → Lib.BuilderAtF T e B b p bs w' := by
    rintro p ⟨h1, v, h2, h3, h4⟩
    refine ⟨h1, v, keep _ _ h2, ?_, h4⟩
    rcases h3 with ⟨h5, h6 | ⟨g, cap, cur, fz, h6, h7, h8, h9⟩⟩
    · exact ⟨h5, .inl h6⟩
    · exact ⟨h5, .inr ⟨g, cap, cur, fz, h6, h7, keep _ _ h8, h9⟩⟩
  exact h.imp (one _) (one _)
/-- A function with a contract that hands back a text. -/
theorem doneStr {P : Program} {f : FuncId} {G : Nat → Option (List D)} {ds : List D} {l : List UInt8} (h : FnC P f G 0 [] ds (fun d' os => d' = .str l ∧ os = [])) {w : World} {vs : List Value} (hl : vs.length = ds.length)
    (hG : ∀ g cs, G g = some cs → GlobOK (fun b => b < w.heap.size) w g cs) (hr : ∀ i, i < ds.length → RO (fun b => b < w.heap.size) w (vs.getD i undef) (ds.getD i .junk)) :
    Calls P f vs.toArray w fun e w' => e = .returned (.string ⟨l.toArray⟩) ∧ Below w.heap.size w w' :=
  (h.doneG hl hG hr).mono fun e w' ⟨v, he, hb, hv⟩ => ⟨by rw [he, hv.str_inv], hb⟩
theorem doneInt {P : Program} {f : FuncId} {G : Nat → Option (List D)} {ds : List D} {k : IntKind} {n : Int} (h : FnC P f G 0 [] ds (fun d' os => d' = .int k n ∧ os = [])) {w : World} {vs : List Value} (hl : vs.length = ds.length)
    (hG : ∀ g cs, G g = some cs → GlobOK (fun b => b < w.heap.size) w g cs) (hr : ∀ i, i < ds.length → RO (fun b => b < w.heap.size) w (vs.getD i undef) (ds.getD i .junk)) :
    Calls P f vs.toArray w fun e w' => e = .returned (.int k n) ∧ Below w.heap.size w w' :=
  (h.doneG hl hG hr).mono fun e w' ⟨v, he, hb, hv⟩ => ⟨by rw [he, hv.int_inv], hb⟩
theorem globs_below {G : Nat → Option (List D)} {w w' : World} (h : ∀ g cs, G g = some cs → GlobOK (fun b => b < w.heap.size) w g cs) (hb : Below w.heap.size w w') : ∀ g cs, G g = some cs → GlobOK (fun b => b < w'.heap.size) w' g cs :=
  fun g cs hg => (h g cs hg).mono fun b hb' => ⟨Nat.lt_of_lt_of_le hb' hb.size, hb.block b hb'⟩
/-- What a list of blocks holds, cell by cell. -/
theorem blocks_cells {F : Nat → Prop} {w : World} {v : Value} {a : List TBlock} (h : RO F w v (.sl 3 (a.map encBlock))) :
    (a = [] ∧ ∃ ad c, v = .slice ad 0 c) ∨ ∃ b off cap, v = .slice (some ⟨b, off, none⟩) a.length cap ∧ F b ∧ a.length ≤ cap ∧ cap ≤ maxLen ∧ ∀ i x, a[i]? = some x → w.cell? ⟨b, off + i * 3, none⟩ = some (.string ⟨x.fKind.toArray⟩) ∧ w.cell? ⟨b, off + i * 3 + 1, none⟩ = some (.string ⟨x.fName.toArray⟩) ∧ w.cell? ⟨b, off + i * 3 + 2, none⟩ = some (.string ⟨x.fText.toArray⟩) := by
  rcases h.sl_cases with ⟨he, ad, c, hv⟩ | ⟨b, off, cap, c, hv, hF, hcap, hm, hs, hc, hr⟩
  · left
    exact ⟨by simpa using he, ad, c, hv⟩
  · right
    refine ⟨b, off, cap, by simpa using hv, hF, by simpa using hcap, hm, fun i x hx => ?_⟩
    have hi : i < (a.map encBlock).length := by simpa using (List.getElem?_eq_some_iff.1 hx).1
    have e : (a.map encBlock).getD i [] = encBlock x := by simp [List.getD_eq_getElem?_getD, hx]
    have h0 := hr i 0 hi (by omega)
    have h1 := hr i 1 hi (by omega)
    have h2 := hr i 2 hi (by omega)
    rw [e] at h0 h1 h2
    have c0 := (Rep.ro (β := fun _ => none) _ _ (show RO F w (c i 0) (.str x.fKind) from h0)).str_inv
    have c1 := (Rep.ro (β := fun _ => none) _ _ (show RO F w (c i 1) (.str x.fName) from h1)).str_inv
    have c2 := (Rep.ro (β := fun _ => none) _ _ (show RO F w (c i 2) (.str x.fText) from h2)).str_inv
    exact ⟨by rw [← c0]; exact (hc i 0 hi (by omega)).1, by rw [← c1]; exact (hc i 1 hi (by omega)).1, by rw [← c2]; exact (hc i 2 hi (by omega)).1⟩
theorem c_impl_SaveBlocks_bad (L : List TBlock) (hv : validBs L = false) : FnC Tryz.prog 23 G0 0 [] [.sl 3 (L.map encBlock)] (fun d os => d = .tup [.str [], .int .i64 1] ∧ os = []) := by
  refine fn_rule Tryz.func23 rfl (by decide +kernel) rfl (fun w0 F0 lent β0 => ?_)
  repeat' (first | refine sC ?_ | ((with_reducible refine isAwp ?_); first | (refine sS ?_; intro Q' hn he hr) | refine sA ?_) | (refine sH ?_; clear hn he hr Q') | refine sO ?_ | ((conv => whnf); first | refine sK ?_ | (refine sB ?_; repeat' (first | refine sb0 ?_ | (refine sb2 ?_ ?_ <;> intro hb <;> try exact cls))) | ((with_reducible refine isCall ?_); first | (refine call_pure (c_impl_ValidBlocks _) rfl rfl ?_)) | ((with_reducible refine isCallQ ?_); first | (refine callQ_pure (c_impl_ValidBlocks _) rfl rfl ?_)) | refine sP ?_ | (refine sE ?_; intro x hx) | (refine sF ?_; intro i y hi hy) | (refine sI ?_; intro i hi) | (refine sL ?_; intro hlen) | (refine sQ ?_; intro c hc hcm; try simp only [lnM, lnA, lnC, lnN] at hc) | (refine sX ?_; intro i1 i2 hi1 hi2 hj1 hj2; try simp only [cutL, lnM, lnA, lnC, lnN, lnT, lnD, lnR] at hi1 hi2 hj2) | refine sD ?_ | (refine ret_pick [] rfl rfl rfl ⟨?_, rfl⟩; conv => lhs; whnf) | (refine ret_pick [0] rfl rfl rfl ⟨rfl, ?_⟩) | (refine sH ?_; clear hn he hr Q')))
  all_goals first | rfl | (rw [hv] at hb; cases hb)
theorem saveTo_all {L : List TBlock} {k : Nat} (h : ¬ k < L.length) (hk : k ≤ L.length) : saveTo L k = saveTo L L.length := by
  rw [show k = L.length by omega]
set_option maxHeartbeats 4000000 in
theorem c_impl_SaveBlocks_ok (L : List TBlock) (hv : validBs L = true) : FnC Tryz.prog 23 GP 0 [] [.sl 3 (L.map encBlock)] (fun d os => d = .tup [.str (saveTo L L.length), .int .i64 0] ∧ os = []) := by
  obtain ⟨hl, hval, _⟩ := validBs_iff.1 hv
  have hV := c_impl_ValidBlocks L
  rw [hv] at hV
  refine FnC.of_calls (callFunc_enter Tryz.func23 rfl (by decide +kernel)) fun w F vs hF hln hro hG => ?_
  have hvs : vs = [vs.getD 0 undef] := by
    match vs, hln with
    | [v], _ => rfl
  have hr0 : RO (fun b => b < w.heap.size) w (vs.getD 0 undef) (.sl 3 (L.map encBlock)) := (hro 0 Nat.zero_lt_one).mono fun b hb => ⟨hF b hb, rfl⟩
  have hG0 : ∀ g cs, GP g = some cs → GlobOK (fun b => b < w.heap.size) w g cs := fun g cs h => (hG g cs h).mono fun b hb => ⟨hF b hb, rfl⟩
  generalize vs.getD 0 undef = v at *
  subst hvs
  have hCall : Calls Tryz.prog 63 #[v] w fun e w' => e = .returned (.bool true) ∧ Below w.heap.size w w' :=
    hV.truthG (vs := [v]) rfl (fun g cs h => by cases h) (fun i hi => by
      have e0 : i = 0 := by simpa using hi
      subst e0
      exact hr0)
  have hDec : ∀ wr, (∀ g cs, GP g = some cs → GlobOK (fun b => b < wr.heap.size) wr g cs) → Calls Tryz.prog 64 #[.int .i64 L.length] wr fun e w' => e = .returned (.string ⟨(Lib.itoa L.length).toArray⟩) ∧ Below wr.heap.size wr w' := fun wr hg =>
    doneStr (c_impl_Decimal L.length (by omega)) (vs := [_]) rfl hg (fun i hi => by
      have e0 : i = 0 := by simpa using hi
      subst e0
      exact .int _ _)
  have hdl := crc_text_len L.length (by omega)
  have hhl : (headL L.length).length ≤ 40 := by
    simp only [headL, List.length_append, List.length_cons, List.length_nil]
    omega
  have e4 : (({ data := #[97, 114, 99, 104, 105, 118, 101, 32] } : ByteArray) ++ ⟨(Lib.itoa L.length).toArray⟩ ++ { data := #[10] }) = ⟨(headL L.length).toArray⟩ := ByteArray.ext (by simp [headL])
  rcases blocks_cells hr0 with ⟨rfl, ad, c, rfl⟩ | ⟨g, off, cap, rfl, hg, hcap, hcm, hcell⟩
  · have hdl0 : (Lib.itoa 0).length ≤ 21 := crc_text_len 0 (by omega)
    have e40 : (({ data := #[97, 114, 99, 104, 105, 118, 101, 32] } : ByteArray) ++ ⟨(Lib.itoa 0).toArray⟩ ++ { data := #[10] }) = ⟨(headL 0).toArray⟩ := ByteArray.ext (by simp [headL])
    have hhl0 : (headL 0).length ≤ 40 := hhl
    show Calls Tryz.prog 23 #[_] w _
    go_enter Tryz.func23, Tryz.ntmps23
    go_wp2_with (go_at_call 63; refine hCall.mono ?_)
    rintro e W1 ⟨rfl, b1⟩
    have g1 := globs_below hG0 b1
    have ba : Below W1.heap.size W1 (W1.alloc (.cells #[.pointer none, .slice none 0 0] 95)) := (Below.refl _ W1).alloc (Nat.le_refl _) _
    go_wp2_with (go_at_call 64; refine (hDec _ (globs_below g1 ba)).mono ?_)
    rintro e W2 ⟨rfl, b2⟩
    have hI0 : Lib.IsBuilderF 95 5 W1.heap.size W1.heap.size (Lib.byteCells []) W2 := builder_below (Lib.IsBuilderF.of (Lib.fresh_isBuilder 95 5 W1)) b2
    have hz2 : W1.heap.size ≤ W2.heap.size := by have := b2.size; simp at this; omega
    go_wp2_with (go_at_call 58; refine (Tryz.bw_write W1.heap.size W1.heap.size _ _ _ hI0 ?c1 ?c2).mono ?_)
    case c1 =>
      simp [ByteArray.size, Lib.byteCells]
      omega
    case c2 => exact hz2
    rintro e W3 ⟨rfl, h3, b3, k3⟩
    have b13 : Below W1.heap.size W1 W3 := (ba.trans (b2.mono (by simp))).trans b3
    have hI3 : Lib.IsBuilderF 95 5 W1.heap.size W1.heap.size (Lib.byteCells (headL 0)) W3 := Or.inr h3
    go_wp2
    go_loopw [19] (fun i wr => i = .int .i64 0 ∧ Lib.IsBuilderF 95 5 W1.heap.size W1.heap.size (Lib.byteCells (headL 0)) wr ∧ Below W1.heap.size W1 wr) (fun i _ => 0)
    case atStart => exact ⟨rfl, hI3, b13⟩
    case round =>
      obtain ⟨rfl, hI, hB⟩ := hrel
      go_wp2_with (go_at_call 59; refine (Tryz.Builder_String_any_f W1.heap.size W1.heap.size (headL 0) _ hI hB.size).mono ?_)
      rintro e W4 ⟨rfl, h4, b4⟩
      go_wp2
      go_ret2
      have e9 : saveTo [] 0 = headL 0 := by simp [saveTo]
      refine ⟨_, rfl, below_grownP (b1.trans ((hB.trans b4).mono b1.size)), ?_⟩
      refine .tup [_, _] _ rfl fun i hi => ?_
      match i, hi with
      | 0, _ =>
        show RO _ _ (.string ⟨(headL 0).toArray⟩) (.str (saveTo [] 0))
        rw [e9]
        exact .str _ (by unfold maxLen; omega)
      | 1, _ => exact .int _ _
  · show Calls Tryz.prog 23 #[_] w _
    go_enter Tryz.func23, Tryz.ntmps23
    go_wp2_with (go_at_call 63; refine hCall.mono ?_)
    rintro e W1 ⟨rfl, b1⟩
    have g1 := globs_below hG0 b1
    have ba : Below W1.heap.size W1 (W1.alloc (.cells #[.pointer none, .slice none 0 0] 95)) := (Below.refl _ W1).alloc (Nat.le_refl _) _
    go_wp2_with (go_at_call 64; refine (hDec _ (globs_below g1 ba)).mono ?_)
    rintro e W2 ⟨rfl, b2⟩
    have hI0 : Lib.IsBuilderF 95 5 W1.heap.size W1.heap.size (Lib.byteCells []) W2 := builder_below (Lib.IsBuilderF.of (Lib.fresh_isBuilder 95 5 W1)) b2
    have hz2 : W1.heap.size ≤ W2.heap.size := by have := b2.size; simp at this; omega
    go_wp2_with (go_at_call 58; refine (Tryz.bw_write W1.heap.size W1.heap.size _ _ _ hI0 ?c1 ?c2).mono ?_)
    case c1 =>
      simp [ByteArray.size, Lib.byteCells]
      omega
    case c2 => exact hz2
    rintro e W3 ⟨rfl, h3, b3, k3⟩
    have b13 : Below W1.heap.size W1 W3 := (ba.trans (b2.mono (by simp))).trans b3
    have hI3 : Lib.IsBuilderF 95 5 W1.heap.size W1.heap.size (Lib.byteCells (headL L.length)) W3 := Or.inr h3
    go_wp2
    go_loopw [19] (fun i wr => ∃ k : Nat, i = .int .i64 k ∧ k ≤ L.length ∧ Lib.IsBuilderF 95 5 W1.heap.size W1.heap.size (Lib.byteCells (saveTo L k)) wr ∧ Below W1.heap.size W1 wr) (fun i _ => L.length - (RowKit.intOf i).toNat)
    case atStart =>
      have e9 : saveTo L 0 = headL L.length := by simp [saveTo]
      exact ⟨0, rfl, Nat.zero_le _, by rw [e9]; exact hI3, b13⟩
    case round =>
      obtain ⟨k, rfl, hk, hI, hB⟩ := hrel
      have hsl := saveTo_len hv k
      by_cases hkl : k < L.length
      · obtain ⟨x, hx⟩ : ∃ x, L[k]? = some x := ⟨_, List.getElem?_eq_getElem hkl⟩
        obtain ⟨h0, h1, h2⟩ := hcell k x hx
        have hgw : wr.heap[g]? = w.heap[g]? := (hB.block g (Nat.lt_of_lt_of_le hg b1.size)).trans (b1.block g hg)
        rw [← cell?_heap (a := ⟨g, off + k * 3, none⟩) hgw] at h0
        rw [← cell?_heap (a := ⟨g, off + k * 3 + 1, none⟩) hgw] at h1
        rw [← cell?_heap (a := ⟨g, off + k * 3 + 2, none⟩) hgw] at h2
        have hvx := hval x (List.mem_of_getElem? hx)
        obtain ⟨hp1, hp2, hp3⟩ := partsB_len hvx
        have hrl := restB_len hvx
        have hcn : crcL (restB x) 65535 ≤ 65535 := by have := crcL_lt (x := 65535) (l := restB x) (by decide); omega
        have hfl := fiveL_len _ (crc_text_len _ hcn)
        have hll := lineOf_len hvx
        have er : (({ data := x.fKind.toArray } : ByteArray) ++ { data := #[32] } ++ { data := x.fName.toArray } ++ { data := #[32] } ++ { data := x.fText.toArray }) = ⟨(restB x).toArray⟩ := ByteArray.ext (by simp [restB])
        have el : (({ data := (fiveL (Lib.itoa (crcL (restB x) 65535 : Nat))).toArray } : ByteArray) ++ { data := #[32] } ++ ⟨(restB x).toArray⟩ ++ { data := #[10] }) = ⟨(lineOf x).toArray⟩ := ByteArray.ext (by simp [lineOf, crcT])
        have hz := hB.size
        have aa : Below wr.heap.size wr (wr.alloc (.cells #[.string ⟨x.fKind.toArray⟩, .string ⟨x.fName.toArray⟩, .string ⟨x.fText.toArray⟩] 105)) := (Below.refl _ wr).alloc (Nat.le_refl _) _
        have hI2 := builder_below hI aa
        have hCrc : ∀ wq, Calls Tryz.prog 66 #[.string ⟨(restB x).toArray⟩, .int .i64 65535] wq fun e w' => e = .returned (.int .i64 (crcL (restB x) 65535 : Nat)) ∧ Below wq.heap.size wq w' := fun wq =>
          doneInt (c_impl_Crc16 (restB x) (by omega)) (vs := [_, _]) rfl (fun g cs h => by cases h) (fun i hi => by
            match i, hi with
            | 0, _ => exact .str _ (by unfold maxLen; omega)
            | 1, _ => exact .int _ _)
        have hPad : ∀ wq, (∀ g cs, GP g = some cs → GlobOK (fun b => b < wq.heap.size) wq g cs) → Calls Tryz.prog 65 #[.int .i64 (crcL (restB x) 65535 : Nat), .int .i64 5] wq fun e w' => e = .returned (.string ⟨(fiveL (Lib.itoa (crcL (restB x) 65535 : Nat))).toArray⟩) ∧ Below wq.heap.size wq w' := fun wq hg =>
          doneStr (c_impl_padded5 _ hcn) (vs := [_, _]) rfl hg (fun i hi => by
            match i, hi with
            | 0, _ => exact .int _ _
            | 1, _ => exact .int _ _)
        have gr : ∀ g cs, GP g = some cs → GlobOK (fun b => b < wr.heap.size) wr g cs := fun g cs h => (g1 g cs h).mono fun b hb => ⟨Nat.lt_of_lt_of_le hb hB.size, hB.block b hb⟩
        go_wp2_with (go_at_call 66; refine (hCrc _).mono ?_)
        rintro e W4 ⟨rfl, b4⟩
        have gr4 := globs_below (globs_below gr aa) b4
        go_wp2_with (go_at_call 65; refine (hPad _ gr4).mono ?_)
        rintro e W5 ⟨rfl, b5⟩
        have hI5 := builder_below (builder_below hI2 b4) b5
        have s4 : wr.heap.size ≤ W4.heap.size := by have := b4.size; simp at this; omega
        have b45 : Below wr.heap.size wr W5 := (aa.trans (b4.mono (by simp))).trans (b5.mono s4)
        go_wp2_with (go_at_call 58; refine (Tryz.bw_write W1.heap.size W1.heap.size _ _ _ hI5 ?c1 ?c2).mono ?_)
        case c1 =>
          rw [Lib.byteCells_length]
          have h9 : (⟨(lineOf x).toArray⟩ : ByteArray).size = (lineOf x).length := by simp [ByteArray.size]
          rw [h9]
          omega
        case c2 => have := b45.size; omega
        rintro e W6 ⟨rfl, h6, b6, k6⟩
        go_wp2
        refine ⟨⟨k + 1, rfl, by omega, ?_, (hB.trans (b45.mono hz)).trans b6⟩, ?_⟩
        · rw [saveTo_succ hx, Lib.byteCells_append]
          exact Or.inr h6
        · simp only [RowKit.intOf]
          omega
      · go_wp2_with (go_at_call 59; refine (Tryz.Builder_String_any_f W1.heap.size W1.heap.size (saveTo L k) _ hI hB.size).mono ?_)
        rintro e W4 ⟨rfl, h4, b4⟩
        go_wp2
        go_ret2
        refine ⟨_, rfl, below_grownP (b1.trans ((hB.trans b4).mono b1.size)), ?_⟩
        rw [saveTo_all hkl hk] at hsl ⊢
        refine .tup [_, _] _ rfl fun i hi => ?_
        match i, hi with
        | 0, _ => exact .str _ (by unfold maxLen; omega)
        | 1, _ => exact .int _ _
end Go.Eng
