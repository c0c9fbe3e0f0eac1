/-
  The words of the most notes, by the program.
  No conditions.
-/
import Derived.Test.YtbpbhjlochijdaaDoorTW1
import Derived.Test.YtbpbhjlochijdaaDoorNX
set_option linter.unusedVariables false
set_option linter.unusedSimpArgs false
namespace Go.Eng
open Go Go.RowKit Go.Proofs
set_option maxRecDepth 100000
theorem cells_one {cc : Array Value} {v : Value} (h1 : cc.size = 1) (h2 : cc.toList.getD 0 undef = v) : cc = #[v] := by
  obtain ⟨u, hu⟩ := List.length_eq_one_iff.1 (show cc.toList.length = 1 by simpa using h1)
  rw [hu] at h2
  have h3 : u = v := h2
  subst h3
  exact Array.ext' hu
/-- slices.SortFunc at an own row of words, by a closure that looks into a map behind a pointer. -/
theorem call_sortF {w0 : World} {F0 lent : Nat → Prop} {β0 : Nat → Option Value} {env : List (Nat × D)} {nt : Nat} {objs : List Obj} {G : Nat → Option (List D)} {pin o ob om n : Nat} {f : List UInt8 → Int} {U : List (List UInt8)} {K : D → St → Prop} (c : List UInt8 → Nat)
    (ho : objs.getD o .dead = .row 9 1 (U.map encS)) (hob : objs.getD ob .dead = .box [.h om]) (hom : objs.getD om .dead = .map Tryd.prog 9 3 n f) (hf : ∀ l, f l = c l) (hU : U.length ≤ 1048576)
    (hk : K (.tup []) ⟨env, nt, objs.set o (.row 9 1 ((U.mergeSort fun x y => !ltT c y x).map encS)), G, pin⟩) :
    CallS ⟨Tryd.prog, w0, F0, lent, β0⟩ 39 [.h o, .clo (.func 40) [.hp ob 0]] ⟨env, nt, objs, G, pin⟩ K := by
  refine CallS.mk (callFunc_enter Tryd.func39 rfl (by decide +kernel)) fun β a w vs hr hl hrep => ?_
  have h0 := (hrep 0 (Nat.zero_lt_succ _)).h_inv
  obtain ⟨cs, hv1, hcl, hcr⟩ := (hrep 1 (Nat.lt_succ_self 1)).clo_inv
  have hcs : cs = [cs.getD 0 undef] := by
    match cs, hcl with
    | [v], _ => rfl
  obtain ⟨pb, y, hy, hyb, hpv⟩ := (hcr 0 Nat.zero_lt_one).hp_inv
  have hvs : vs = [vs.getD 0 undef, vs.getD 1 undef] := by
    match vs, hl with
    | [v, u], _ => rfl
  obtain ⟨b', cc, T, hyv, hbg, hcz, hc1, hcrep⟩ := hr.box (st := ⟨env, nt, objs, G, pin⟩) hob hy
  have hm0 := (hcrep 0 Nat.zero_lt_one).h_inv
  obtain ⟨hok, mb, mm, D, hcv, hle, hown, hD, hat⟩ := hr.ownMap (st := ⟨env, nt, objs, G, pin⟩) hom hm0
  have hcc := cells_one hcz hcv
  have hbb : b' = pb := by
    rw [hyv] at hyb
    simpa [blk] using hyb
  subst hbb
  rw [hcc] at hbg
  have hrow := hr.row (st := ⟨env, nt, objs, G, pin⟩) ho h0
  have hoob : o ≠ ob := fun e => by rw [e, hob] at ho; cases ho
  have hoom : o ≠ om := fun e => by rw [e, hom] at ho; cases ho
  have hcmb : blk (cc.toList.getD 0 undef) = some mb := by rw [hcv]; rfl
  have hpl : b' < w.heap.size := (Array.getElem?_eq_some_iff.1 hbg).1
  obtain ⟨hu1, hu2, hx | ⟨g, cap, cur, hx, hg, h3, h4, h5, h6⟩⟩ := strRow_out hrow
  · obtain ⟨hx1, rfl⟩ := hx
    have e : vs.toArray = #[.slice none 0 0, vs.getD 1 undef] := by
      rw [hvs, hx1]
      rfl
    rw [e]
    refine (Tryd.slices_SortFunc_none (α := WordG) none 0 (vs.getD 1 undef) w).mono ?_
    rintro e w' ⟨rfl, rfl⟩
    have hnil : ([] : List (List UInt8)).mergeSort (fun x y => !ltT c y x) = [] := List.mergeSort_nil
    rw [hnil] at hk
    have hst := hr.store (w' := w') h0 (grown_refl _ _) (.row 9 1 (([] : List (List UInt8)).map encS)) trivial (fun F' hF => Own.plain_mono (o := .row 9 1 (([] : List (List UInt8)).map encS)) (β := β) (fun b hb => ⟨(hF b hb).1, rfl⟩) trivial (fun _ _ => rfl) hrow)
    exact ⟨_, .tup [], _, β, rfl, hst, .ro _ _ (RO.tup [] [] rfl (fun i hi => absurd hi (Nat.not_lt_zero _))), hk⟩
  · obtain ⟨d, hd1⟩ : ∃ d : List WordG, d.map (·.1) = U := ⟨U.attach.map fun t => ⟨t.1, hu1 t.1 t.2⟩, by
      rw [List.map_map]
      exact List.attach_map_subtype_val U⟩
    have hd2 : d.length = U.length := by rw [← hd1, List.length_map]
    have hblk : blk (vs.getD 0 undef) = some g := by rw [hx]; rfl
    have hg1 : g < w.heap.size := (Array.getElem?_eq_some_iff.1 hg).1
    have hn1 : b' ≠ g := fun e => hoob (hr.sep o ob _ _ g h0 hy hblk (by rw [hyv, e]; rfl))
    have hn2 : mb ≠ g := fun e => hoom (hr.sep o om _ _ g h0 hm0 hblk (by rw [hcmb, e]))
    have hH : Go.Sort.Holds encG w g 0 d.toArray := by
      intro j hj
      have hj1 : j < d.length := by simpa using hj
      have hj2 : j < U.length := by omega
      have hH0 := holds_row hg h6 j (by simpa using hj2)
      have e1 : (d.toArray[j]!) = d[j] := by rw [getElem!_pos _ j hj, List.getElem_toArray]
      have e2 : (U.toArray[j]!) = U[j] := by rw [getElem!_pos _ j (by simpa using hj2), List.getElem_toArray]
      have e3 : d[j].1 = U[j] := by
        have h9 := congrArg (fun z => z[j]?) hd1
        simp only [List.getElem?_map, List.getElem?_eq_getElem hj1, List.getElem?_eq_getElem hj2, Option.map_some] at h9
        exact Option.some.inj h9
      rw [e1]
      rw [e2] at hH0
      show w.cell? ⟨g, 0 + j, none⟩ = some (encStr d[j].1) ∧ _
      rw [e3]
      exact hH0
    have hcmp : CmpLays1 Tryd.prog 40 #[.pointer (some ⟨b', 0, none⟩)] encG (fun x y : WordG => cfW f x.1 y.1) g 0 d.toArray.size w := by
      intro m os dk hs x y
      have hg2 : w.grownBy (sortWorld encG w g 0 m dk os) (some g) := putRow_grownG
      exact k_closure x.1 y.1 x.2 y.2 _ b' mb mm T (0, 0) D f ((hg2.block b' hpl (fun e => hn1 (Option.some.inj e))).trans hbg) (hown.kept hg2 (fun e => hn2 (Option.some.inj e))) hat
    have e : vs.toArray = #[.slice (some ⟨g, 0, none⟩) d.toArray.size cap, .func (.func 40) #[] #[.pointer (some ⟨b', 0, none⟩)]] := by
      rw [hvs, hx, hv1, hcs, hpv, List.size_toArray, hd2]
    rw [e]
    refine (Tryd.slices_SortFunc_total encG (fun _ => rfl) (fun x y : WordG => cfW f x.1 y.1) (swoW c f hf) 40 #[.pointer (some ⟨b', 0, none⟩)] g 0 cap d.toArray w (callFunc_enter Tryd.func40 rfl (by decide +kernel)) hcmp hH hg1 (by rw [List.size_toArray, hd2]; omega) (fun x y h k => Subtype.ext (ltT_tot (c := c) (by rw [← cfW_lt c f hf]; exact h) (by rw [← cfW_lt c f hf]; exact k)))).mono ?_
    rintro e w' ⟨rfl, n', os, rfl⟩
    have hms : ((d.toArray.toList.mergeSort fun x y => !(ltOf fun x y : WordG => cfW f x.1 y.1) y x).map (·.1)) = U.mergeSort fun x y => !ltT c y x := by
      rw [List.map_mergeSort (s := fun x y => !ltT c y x) (fun x _ y _ => by
        show (!decide (cfW f y.1 x.1 < 0)) = !ltT c y.1 x.1
        rw [cfW_lt c f hf])]
      rw [show d.toArray.toList = d from rfl, hd1]
    have hml : (d.toArray.toList.mergeSort fun x y => !(ltOf fun x y : WordG => cfW f x.1 y.1) y x).length = U.length := by rw [List.length_mergeSort, show d.toArray.toList = d from rfl, hd2]
    have hst := hr.store (w' := sortWorld encG w g 0 n' (d.toArray.toList.mergeSort fun x y => !(ltOf fun x y : WordG => cfW f x.1 y.1) y x).toArray os) h0 (by rw [hblk]; exact putRow_grownG) (.row 9 1 ((U.mergeSort fun x y => !ltT c y x).map encS)) trivial (fun F' hF => by
      have h9 := sorted_rowG (F := F') (n := n') (os := os) (m := d.toArray.toList.mergeSort fun x y => !(ltOf fun x y : WordG => cfW f x.1 y.1) y x) hg (by omega) h4 h5
      rw [hms, hml] at h9
      rw [hx]
      exact h9)
    exact ⟨_, .tup [], _, β, rfl, hst, .ro _ _ (RO.tup [] [] rfl (fun i hi => absurd hi (Nat.not_lt_zero _))), hk⟩
end Go.Eng
