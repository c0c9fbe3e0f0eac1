/-
  Rows of findings laid end to end: slices.Grow of no slice at all, slices.Concat.
  No conditions.
-/
import Derived.Test.YtigdnelbanaieaaGreatDoorED
import Derived.Test.YtigdnelbanaieaaGreatDoorRW
import Derived.Test.YtigdnelbanaieaaGreatDoorP1
import Derived.Test.YtigdnelbanaieaaGreatDoorMF0
import Derived.Shelf.Spec.SlicesGrow
set_option linter.unusedVariables false
set_option linter.unusedSimpArgs false
set_option maxHeartbeats 4000000
namespace Go.Proofs
open Go.Shelf
def Tryz.growFinding_ren : Go.Shelf.Ren := ⟨fun | 4 => 96 | n => n, fun | 22 => 35 | 25 => 78 | 3 => 3 | 4 => 4 | 9 => 9 | 20 => 20 | 0 => 0 | n => n, fun | n => n⟩
theorem Tryz.growFinding : Go.Proofs.Lays8.n4 Tryz.prog Tryz.growFinding_ren := {
  mixed := by kernel_rfl
  f4 := ⟨Tryz.f96.name, by decide, Tryz.func96.trans (congrArg some (by kernel_rfl))⟩
  t0 := Tryz.underlying0
  a0 := Tryz.isAgg0
  z0 := Tryz.sizeOf0
  v0 := Tryz.zeroValue0
  t3 := Tryz.underlying3
  a3 := Tryz.isAgg3
  z3 := Tryz.sizeOf3
  v3 := Tryz.zeroValue3
  t4 := Tryz.underlying4
  a4 := Tryz.isAgg4
  z4 := Tryz.sizeOf4
  v4 := Tryz.zeroValue4
  t9 := Tryz.underlying9
  a9 := Tryz.isAgg9
  z9 := Tryz.sizeOf9
  v9 := Tryz.zeroValue9
  t20 := Tryz.underlying20
  a20 := Tryz.isAgg20
  z20 := Tryz.sizeOf20
  v20 := Tryz.zeroValue20
  t22 := Tryz.underlying35
  a22 := Tryz.isAgg35
  z22 := Tryz.sizeOf35
  v22 := Tryz.zeroValue35 }
end Go.Proofs
namespace Go.Eng
open Go Go.RowKit Go.Proofs
set_option maxRecDepth 100000
theorem finding_info : ∃ i z, Tryz.prog.info? 78 = some i ∧ i.zero = some z ∧ i.size = 3 ∧ i.bytes ≤ 1000 ∧ z.cells.size = 3 := by
  have h : (match Tryz.prog.info? 78 with | some i => (match i.zero with | some z => Nat.beq i.size 3 && Nat.ble i.bytes 1000 && Nat.beq z.cells.size 3 | none => false) | none => false) = true := by kernel_rfl
  split at h
  · rename_i i hi
    split at h
    · rename_i z hz
      simp only [Bool.and_eq_true] at h
      exact ⟨i, z, hi, hz, Nat.eq_of_beq_eq_true h.1.1, Nat.le_of_ble_eq_true h.1.2, Nat.eq_of_beq_eq_true h.2⟩
    · cases h
  · cases h
theorem c_slices_Grow (n : Nat) (hn : n ≤ 1000000) : FnC Tryz.prog 96 G0 0 [] [.v (.slice none 0 0), .int .i64 n] (fun d os => d = .h 0 ∧ os = [.row 78 3 []]) := by
  refine FnC.of_calls_new (callFunc_enter Tryz.func96 rfl (by decide +kernel)) fun w F vs hF hl hro hG => ?_
  have h0 : vs.getD 0 undef = .slice none 0 0 := (Rep.ro (β := fun _ => none) _ _ (hro 0 (Nat.lt_of_sub_eq_succ rfl))).v_inv
  have h1 : vs.getD 1 undef = .int .i64 n := (Rep.ro (β := fun _ => none) _ _ (hro 1 (Nat.lt_of_sub_eq_succ rfl))).int_inv
  have hvs : vs = [vs.getD 0 undef, vs.getD 1 undef] := by
    match vs, hl with
    | [v, v'], _ => rfl
  rw [hvs, h0, h1]
  rcases Nat.eq_zero_or_pos n with rfl | hp
  · refine (Any8.slices_Grow_room Tryz.growFinding none 0 0 0 w (Nat.le_refl _) (by decide) (by decide) (Nat.le_refl _)).mono ?_
    rintro e w' ⟨rfl, rfl⟩
    exact ⟨_, rfl, ⟨rfl, rfl, rfl, Nat.le_refl _, fun _ _ _ => rfl⟩, ⟨Nat.zero_le _, fun i hi => absurd hi (Nat.not_lt_zero _), [], ⟨rfl, .inl ⟨rfl, rfl⟩⟩, fun u hu => absurd hu (List.not_mem_nil), fun i j hi => absurd hi (Nat.not_lt_zero _)⟩, fun b hb => by simp [blk] at hb⟩
  · obtain ⟨i0, z, hi0, hz0, hs0, hb0, hzc⟩ := finding_info
    have hm : n * i0.bytes ≤ n * 1000 := Nat.mul_le_mul_left _ hb0
    refine (Any8.slices_Grow_grow Tryz.growFinding i0 z hi0 hz0 (by omega) none 0 0 n [] w (Nat.le_refl _) (by omega) (by rw [Nat.zero_add]; omega) (by omega) (by simp) (fun _ => rfl) (fun a ha => by cases ha)).mono ?_
    rintro e w' ⟨rfl, rfl⟩
    have hge : 0 + n ≤ grownCap w (0 + n) 0 (Tryz.growFinding_ren.t 25) := grownCap_ge w _ _ _
    refine ⟨_, rfl, ⟨rfl, rfl, rfl, by simp, fun k hk _ => heap_alloc_old w.drew _ hk⟩, ⟨Nat.zero_le _, fun i hi => absurd hi (Nat.not_lt_zero _), [], ⟨rfl, .inr ⟨w.heap.size, _, _, rfl, Nat.zero_le _, heap_alloc_new w.drew _, Nat.zero_le _, grownCap_le_maxLen w _ _ _ (by unfold maxLen; omega), ?_, by simp⟩⟩, fun u hu => absurd hu (List.not_mem_nil), fun i j hi => absurd hi (Nat.not_lt_zero _)⟩, fun b hb => ?_⟩
    · simp only [Array.size_append, Builtin.zeroCells, Array.size_map, Array.size_range, hzc, List.size_toArray, List.length_nil]
      omega
    · have : w.heap.size = b := Option.some.inj hb
      omega
def catS (ps : List (List TFinding)) : List (List D) := ps.map fun p => [.sl 3 (p.map encFinding)]
def catN (ps : List (List TFinding)) : Nat := (ps.map List.length).sum
theorem catN_take {ps : List (List TFinding)} {p : List TFinding} {k : Nat} (h : ps[k]? = some p) : catN (ps.take (k + 1)) = catN (ps.take k) + p.length := by
  unfold catN
  rw [List.take_add_one, h]
  simp
theorem catN_le (ps : List (List TFinding)) (k : Nat) : catN (ps.take k) ≤ catN ps := by
  unfold catN
  have := congrArg (fun l => (l.map List.length).sum) (List.take_append_drop k ps)
  simp only [List.map_append, List.sum_append] at this
  omega
theorem flat_take {ps : List (List TFinding)} {p : List TFinding} {k : Nat} (h : ps[k]? = some p) : (ps.take (k + 1)).flatten = (ps.take k).flatten ++ p := by
  rw [List.take_add_one, h]
  simp
theorem flat_len : ∀ ps : List (List TFinding), ps.flatten.length = catN ps
  | [] => rfl
  | p :: r => by
    have := flat_len r
    unfold catN at *
    simp [this]
set_option maxHeartbeats 8000000 in
theorem c_slices_Concat (ps : List (List TFinding)) (hp : ps.length ≤ 1000) (hl : catN ps ≤ 1000000) : FnC Tryz.prog 34 G0 0 [] [.sl 1 (catS ps)] (fun d os => d = .h 0 ∧ os = [.row 78 3 (ps.flatten.map encFinding)]) := by
  refine fn_rule Tryz.func34 rfl (by decide +kernel) rfl (fun w0 F0 lent β0 => ?_)
  repeat' (first | refine sC ?_ | ((with_reducible refine isAwp ?_); first | (refine sS ?_; intro Q' hn he hr) | refine sA ?_) | (refine sH ?_; clear hn he hr Q') | ((conv => whnf); first | refine sK ?_ | (refine sL ?_; intro hlen)))
  refine loop_env (fun k : Nat => [(0,.sl 1 (catS ps)),(3,.int .i64 (catN (ps.take k))),(9,.sl 1 (catS ps)),(10,.int .i64 ps.length),(11,.int .i64 k)]) (fun _ => []) (fun k => k ≤ ps.length) (fun k => ps.length - k) 0 (by omega) (by refine weak_to rfl rfl rfl ?_; ((repeat' (first | exact trivial | refine And.intro ?_ ?_)) <;> (first | rfl | (conv => rhs; whnf) <;> (first | rfl | (refine congrArg (D.int _) ?_; omega))))) (fun k hk Q' hn he hr => ?_)
  have hkn := catN_le ps k
  by_cases hkl : k < ps.length
  · obtain ⟨p, hp0⟩ : ∃ p, ps[k]? = some p := ⟨_, List.getElem?_eq_getElem hkl⟩
    have hst := catN_take hp0
    have hkn1 := catN_le ps (k + 1)
    have hat : (catS ps)[k]? = some [.sl 3 (p.map encFinding)] := by rw [catS, List.getElem?_map, hp0]; rfl
    repeat' (first | refine sC ?_ | ((with_reducible refine isAwp ?_); first | (refine sS ?_; intro Q' hn he hr) | refine sA ?_) | (refine sH ?_; clear hn he hr Q') | ((conv => whnf); first | refine sK ?_ | (refine sB ?_; repeat' (refine sb2 ?_ ?_ <;> intro hb <;> try exact cls)) | refine sP ?_ | (refine sL ?_; intro hlen)))
    · refine ⟨k + 1, by omega, by omega, ?_⟩
      rw [hst]
      exact (by refine weak_to rfl rfl rfl ?_; ((repeat' (first | exact trivial | refine And.intro ?_ ?_)) <;> (first | rfl | (conv => rhs; whnf) <;> (first | rfl | (refine congrArg (D.int _) ?_; omega)))))
  · obtain rfl : k = ps.length := by omega
    rw [List.take_length]
    repeat' (first | refine sC ?_ | ((with_reducible refine isAwp ?_); first | (refine sS ?_; intro Q' hn he hr) | refine sA ?_) | (refine sH ?_; clear hn he hr Q') | ((conv => whnf); first | refine sK ?_ | (refine sB ?_; repeat' (refine sb2 ?_ ?_ <;> intro hb <;> try exact cls)) | ((with_reducible refine isCall ?_); (refine call_mk (c_slices_Grow (catN ps) hl) rfl (by first | exact (rfl : _ = 0) | exact (rfl : _ = 1) | exact (rfl : _ = 2) | exact (rfl : _ = 3) | exact (rfl : _ = 4) | exact (rfl : _ = 5) | exact (rfl : _ = 6) | exact (rfl : _ = 7) | exact (rfl : _ = 8) | exact (rfl : _ = 9) | exact (rfl : _ = 10) | exact (rfl : _ = 11) | exact (rfl : _ = 12) | exact (rfl : _ = 13) | exact (rfl : _ = 14) | exact (rfl : _ = 15) | exact (rfl : _ = 16) | exact (rfl : _ = 17) | exact (rfl : _ = 18) | exact (rfl : _ = 19) | exact (rfl : _ = 20) | exact (rfl : _ = 21) | exact (rfl : _ = 22) | exact (rfl : _ = 23) | exact (rfl : _ = 24) | exact (rfl : _ = 25) | exact (rfl : _ = 26) | exact (rfl : _ = 27) | exact (rfl : _ = 28) | exact (rfl : _ = 29) | exact (rfl : _ = 30) | exact (rfl : _ = 31) | exact (rfl : _ = 32) | exact (rfl : _ = 33) | exact (rfl : _ = 34) | exact (rfl : _ = 35) | exact (rfl : _ = 36) | exact (rfl : _ = 37) | exact (rfl : _ = 38) | exact (rfl : _ = 39)) ?_)) | (refine sL ?_; intro hlen) | (refine sH ?_; clear hn he hr Q')))
    refine loop_env (fun k : Nat => [(0,.sl 1 (catS ps)),(6,.h 0),(25,.sl 1 (catS ps)),(26,.int .i64 ps.length),(27,.int .i64 k)]) (fun k => [.row 78 3 ((ps.take k).flatten.map encFinding)]) (fun k => k ≤ ps.length) (fun k => ps.length - k) 0 (by omega) (by refine weak_to rfl rfl rfl ?_; ((repeat' (first | exact trivial | refine And.intro ?_ ?_)) <;> (first | rfl | (conv => rhs; whnf) <;> (first | rfl | (refine congrArg (D.int _) ?_; omega))))) (fun k hk Q' hn he hr => ?_)
    have hkn := catN_le ps k
    have hfl : (ps.take k).flatten.length ≤ catN ps := by rw [flat_len]; exact hkn
    by_cases hkl : k < ps.length
    · obtain ⟨p, hp0⟩ : ∃ p, ps[k]? = some p := ⟨_, List.getElem?_eq_getElem hkl⟩
      have hst := catN_take hp0
      have hkn1 := catN_le ps (k + 1)
      have hfl1 : (ps.take k).flatten.length + p.length ≤ catN ps := by rw [flat_len]; omega
      have hat : (catS ps)[k]? = some [.sl 3 (p.map encFinding)] := by rw [catS, List.getElem?_map, hp0]; rfl
      repeat' (first | refine sC ?_ | ((with_reducible refine isAwp ?_); first | (refine sS ?_; intro Q' hn he hr) | refine sA ?_) | (refine sH ?_; clear hn he hr Q') | ((conv => whnf); first | refine sK ?_ | (refine sB ?_; repeat' (refine sb2 ?_ ?_ <;> intro hb <;> try exact cls)) | refine sP ?_))
      · refine ⟨k + 1, by omega, by omega, ?_⟩
        exact (by refine weak_to rfl rfl (by rw [flat_take hp0, List.map_append]; rfl) ?_; ((repeat' (first | exact trivial | refine And.intro ?_ ?_)) <;> (first | rfl | (conv => rhs; whnf) <;> (first | rfl | (refine congrArg (D.int _) ?_; omega)))))
    · obtain rfl : k = ps.length := by omega
      rw [List.take_length]
      repeat' (first | refine sC ?_ | ((with_reducible refine isAwp ?_); first | (refine sS ?_; intro Q' hn he hr) | refine sA ?_) | (refine sH ?_; clear hn he hr Q') | ((conv => whnf); first | refine sK ?_ | (refine sB ?_; repeat' (refine sb2 ?_ ?_ <;> intro hb <;> try exact cls)) | ((with_reducible refine isRet ?_); (refine ret_pick [0] rfl rfl rfl ⟨rfl, ?_⟩)) | (refine sH ?_; clear hn he hr Q')))
      all_goals rfl
end Go.Eng
