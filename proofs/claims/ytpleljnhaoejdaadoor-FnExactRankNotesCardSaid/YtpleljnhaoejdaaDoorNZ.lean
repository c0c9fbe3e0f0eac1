/-
  The reference's RankNotes.
  No conditions.
-/
import Derived.Test.YtpleljnhaoejdaaDoorED
import Derived.Test.YtpleljnhaoejdaaDoorNO
set_option linter.unusedVariables false
set_option linter.unusedSimpArgs false
set_option maxHeartbeats 4000000
namespace Go.Eng
open Go Go.RowKit Go.Proofs
set_option maxRecDepth 100000
theorem c_spec_RankNotes_bad (a : List TNote) (q : List UInt8) (hv : validNs a = false) : FnC Tryd.prog 62 G0 0 [] [.sl 2 (a.map encNote), .str q] (fun d os => d = .tup [.sl 1 [], .int .i64 1] ∧ os = []) := by
  refine fn_rule Tryd.func62 rfl (by decide +kernel) rfl (fun w0 F0 lent β0 => ?_)
  repeat' (first | refine sC ?_ | ((with_reducible refine isAwp ?_); first | (refine sS ?_; intro Q' hn he hr) | refine sA ?_) | (refine sH ?_; clear hn he hr Q') | refine sO ?_ | ((conv => whnf); first | refine sK ?_ | (refine sB ?_; repeat' (first | refine sb0 ?_ | (refine sb2 ?_ ?_ <;> intro hb <;> try exact cls))) | ((with_reducible refine isCall ?_); first | (refine call_pure (c_spec_l30Ok _) rfl rfl ?_)) | ((with_reducible refine isCallQ ?_); first | (refine callQ_pure (c_spec_l30Ok _) rfl rfl ?_)) | ((with_reducible refine isRet ?_); first | (refine ret_nil 1 ?_; refine ret_pick [] rfl rfl rfl ⟨?_, rfl⟩)) | refine sP ?_ | (refine sE ?_; intro x hx) | (refine sF ?_; intro i y hi hy) | (refine sI ?_; intro i hi) | (refine sL ?_; intro hlen) | (refine sQ ?_; intro c hc hcm; try simp only [lnM, lnA, lnC, lnN] at hc) | (refine sX ?_; intro i1 i2 hi1 hi2 hj1 hj2; try simp only [cutL, lnM, lnA, lnC, lnN, lnT, lnD, lnR] at hi1 hi2 hj2) | refine sD ?_ | (refine ret_pick [] rfl rfl rfl ⟨?_, rfl⟩; conv => lhs; whnf) | (refine ret_pick [0] rfl rfl rfl ⟨rfl, ?_⟩) | (refine sH ?_; clear hn he hr Q')))
  all_goals rfl
theorem c_spec_RankNotes_out (a : List TNote) (q : List UInt8) (hv : validNs a = true) (hv2 : textB q = false) : FnC Tryd.prog 62 G0 0 [] [.sl 2 (a.map encNote), .str q] (fun d os => d = .tup [.sl 1 [], .int .i64 2] ∧ os = []) := by
  refine fn_rule Tryd.func62 rfl (by decide +kernel) rfl (fun w0 F0 lent β0 => ?_)
  repeat' (first | refine sC ?_ | ((with_reducible refine isAwp ?_); first | (refine sS ?_; intro Q' hn he hr) | refine sA ?_) | (refine sH ?_; clear hn he hr Q') | refine sO ?_ | ((conv => whnf); first | refine sK ?_ | (refine sB ?_; repeat' (first | refine sb0 ?_ | (refine sb2 ?_ ?_ <;> intro hb <;> try exact cls))) | ((with_reducible refine isCall ?_); first | (refine call_pure (c_spec_l30Ok _) rfl rfl ?_) | (refine call_pure (c_spec_l30Text _) rfl rfl ?_)) | ((with_reducible refine isCallQ ?_); first | (refine callQ_pure (c_spec_l30Ok _) rfl rfl ?_) | (refine callQ_pure (c_spec_l30Text _) rfl rfl ?_)) | ((with_reducible refine isRet ?_); first | (refine ret_nil 1 ?_; refine ret_pick [] rfl rfl rfl ⟨?_, rfl⟩)) | refine sP ?_ | (refine sE ?_; intro x hx) | (refine sF ?_; intro i y hi hy) | (refine sI ?_; intro i hi) | (refine sL ?_; intro hlen) | (refine sQ ?_; intro c hc hcm; try simp only [lnM, lnA, lnC, lnN] at hc) | (refine sX ?_; intro i1 i2 hi1 hi2 hj1 hj2; try simp only [cutL, lnM, lnA, lnC, lnN, lnT, lnD, lnR] at hi1 hi2 hj2) | refine sD ?_ | (refine ret_pick [] rfl rfl rfl ⟨?_, rfl⟩; conv => lhs; whnf) | (refine ret_pick [0] rfl rfl rfl ⟨rfl, ?_⟩) | (refine sH ?_; clear hn he hr Q')))
  all_goals rfl
theorem c_spec_l00Own (l : List Int) (hl : l.length ≤ 1048576) : FnC Tryd.prog 106 G0 0 [] [.sl 1 (l.map encI)] (fun d os => d = .h 0 ∧ os = [.row 2 1 (l.map encI)]) := by
  refine fn_rule Tryd.func106 rfl (by decide +kernel) rfl (fun w0 F0 lent β0 => ?_)
  repeat' (first | refine sC ?_ | ((with_reducible refine isAwp ?_); first | (refine sS ?_; intro Q' hn he hr) | refine sA ?_) | (refine sH ?_; clear hn he hr Q') | refine sO ?_ | ((conv => whnf); first | refine sK ?_ | (refine sB ?_; repeat' (first | refine sb0 ?_ | (refine sb2 ?_ ?_ <;> intro hb <;> try exact cls))) | refine sP ?_ | (refine sE ?_; intro x hx) | (refine sF ?_; intro i y hi hy) | (refine sI ?_; intro i hi) | (refine sL ?_; intro hlen) | (refine sQ ?_; intro c hc hcm; try simp only [lnM, lnA, lnC, lnN] at hc) | (refine sX ?_; intro i1 i2 hi1 hi2 hj1 hj2; try simp only [cutL, lnM, lnA, lnC, lnN, lnT, lnD, lnR] at hi1 hi2 hj2) | refine sD ?_ | (refine ret_pick [] rfl rfl rfl ⟨?_, rfl⟩; conv => lhs; whnf) | (refine ret_pick [0] rfl rfl rfl ⟨rfl, ?_⟩) | (refine sH ?_; clear hn he hr Q')))
  all_goals rfl
theorem c_spec_l00OwnT (l : List Int) (m : Nat) (hl : l.length ≤ 1048576) : FnC Tryd.prog 106 G0 0 [] [.sl 1 ((l.map encI).take m)] (fun d os => d = .h 0 ∧ os = [.row 2 1 ((l.take m).map encI)]) := by
  rw [← List.map_take]
  exact c_spec_l00Own _ (by rw [List.length_take]; omega)
/-- A call that is shown the first elements of an own row and makes new objects. -/
theorem call_mk_hs {P : Program} {w0 : World} {F0 lent : Nat → Prop} {β0 : Nat → Option Value} {env : List (Nat × D)} {nt : Nat} {objs : List Obj} {g : Nat → Option (List D)} {pin : Nat} {f : FuncId} {K : D → St → Prop} {d : D} {oo : List Obj} {n o s b : Nat} {T : TypeId} {es : List (List D)}
    (ho : objs.getD o .dead = .row T s es) (hb : b ≤ es.length) (hc : FnC P f g 0 [] [.sl s (es.take b)] (fun d' os => d' = d ∧ os = oo)) (hd : flat d = true) (hf : ∀ o ∈ oo, FlatO o) (hl : objs.length = n) (hk : K (ren (n + ·) d) ⟨env, nt, objs ++ oo, g, pin⟩) :
    CallS ⟨P, w0, F0, lent, β0⟩ f [.hs o s 0 b] ⟨env, nt, objs, g, pin⟩ K := by
  refine call_mk_look ?_ hd hf hl hk
  have e : view ⟨env, nt, objs, g, pin⟩ (.hs o s 0 b) = .sl s (es.take b) := by
    have h1 : (St.mk env nt objs g pin).obj o = .row T s es := ho
    show viewC ⟨env, nt, objs, g, pin⟩ (.hs o s 0 b) = _
    unfold viewC
    simp only [h1]
    have h2 : (Nat.beq s s && Nat.ble b es.length) = true := by simp [hb]
    rw [h2]
    simp
  show FnC P f g 0 [] [view ⟨env, nt, objs, g, pin⟩ (.hs o s 0 b)] _
  rw [e]
  exact hc
theorem natI_ins (P : List Nat) (m k : Nat) : natI (P.take m ++ k :: P.drop m) = (natI P).take m ++ ((k : Int) :: (natI P).drop m) := by
  simp [natI]
theorem ins_row (L : List Int) (m : Nat) (k : Int) : List.map encI (L.take m) ++ [[D.int .i64 k]] ++ List.take ((List.map encI L).length - m) (List.drop m (List.map encI L)) = List.map encI (L.take m ++ k :: L.drop m) := by
  have h : List.take ((List.map encI L).length - m) (List.drop m (List.map encI L)) = List.drop m (List.map encI L) := List.take_of_length_le (by rw [List.length_drop]; omega)
  rw [h]
  simp [encI]
set_option maxHeartbeats 8000000 in
theorem c_spec_RankNotes_ok (a : List TNote) (q : List UInt8) (hv : validNs a = true) (hv2 : textB q = true) : FnC Tryd.prog 62 G0 0 [] [.sl 2 (a.map encNote), .str q] (fun d os => d = .tup [.h 0, .int .i64 0] ∧ os = [.row 2 1 ((natI (rankN (scoresW (tableW a) (wordsL q)) (sizesW (tableW a)) a.length)).map encI)]) := by
  have hl := (validNs_iff.1 hv).1
  have htl := tableW_len a
  obtain ⟨hq1, hq2⟩ := textB_facts hv2
  have hwl := wordsL_len q
  have hC := c_spec_l30Words q (by omega)
  have hC2 := c_spec_l30Table a hv
  have hzl := sizesW_len (tableW a)
  have hsl := scoresW_len (tableW a) (wordsL q)
  have hsat : ∀ (k : Nat) (s : Int), (scoresW (tableW a) (wordsL q))[k]? = some s → scoreW (tableW a) k (wordsL q) = s := fun k s h => by
    have hk : k < (tableW a).length := by have := (List.getElem?_eq_some_iff.1 h).1; omega
    rw [scoresW_at hk] at h
    exact Option.some.inj h
  have hzs : ∀ (k : Nat) (W : List (List UInt8)), (tableW a)[k]? = some W → (sizesW (tableW a))[k]? = some W.length := fun k x h => by
    unfold sizesW
    rw [List.getElem?_map, h]
    rfl
  generalize hS : scoresW (tableW a) (wordsL q) = S at *
  generalize hZ : sizesW (tableW a) = Z at *
  generalize hW : wordsL q = W at *
  generalize hT : tableW a = T at *
  refine fn_rule Tryd.func62 rfl (by decide +kernel) rfl (fun w0 F0 lent β0 => ?_)
  repeat' (first | refine sC ?_ | ((with_reducible refine isAwp ?_); first | (refine sS ?_; intro Q' hn he hr) | refine sA ?_) | (refine sH ?_; clear hn he hr Q') | refine sO ?_ | ((conv => whnf); first | refine sK ?_ | (refine sB ?_; repeat' (first | refine sb0 ?_ | (refine sb2 ?_ ?_ <;> intro hb <;> try exact cls))) | ((with_reducible refine isCall ?_); first | (refine call_pure (c_spec_l30Ok _) rfl rfl ?_) | (refine call_pure (c_spec_l30Text _) rfl rfl ?_) | (refine call_mk hC2 rfl (by first | exact (rfl : _ = 0) | exact (rfl : _ = 1) | exact (rfl : _ = 2) | exact (rfl : _ = 3) | exact (rfl : _ = 4) | exact (rfl : _ = 5) | exact (rfl : _ = 6) | exact (rfl : _ = 7) | exact (rfl : _ = 8) | exact (rfl : _ = 9) | exact (rfl : _ = 10) | exact (rfl : _ = 11) | exact (rfl : _ = 12) | exact (rfl : _ = 13) | exact (rfl : _ = 14) | exact (rfl : _ = 15) | exact (rfl : _ = 16) | exact (rfl : _ = 17) | exact (rfl : _ = 18) | exact (rfl : _ = 19) | exact (rfl : _ = 20) | exact (rfl : _ = 21) | exact (rfl : _ = 22) | exact (rfl : _ = 23) | exact (rfl : _ = 24) | exact (rfl : _ = 25) | exact (rfl : _ = 26) | exact (rfl : _ = 27) | exact (rfl : _ = 28) | exact (rfl : _ = 29) | exact (rfl : _ = 30) | exact (rfl : _ = 31) | exact (rfl : _ = 32) | exact (rfl : _ = 33) | exact (rfl : _ = 34) | exact (rfl : _ = 35) | exact (rfl : _ = 36) | exact (rfl : _ = 37) | exact (rfl : _ = 38) | exact (rfl : _ = 39)) ?_) | (refine call_mk_look hC rfl (flat_one (FlatO.map fun _ => rfl)) (by first | exact (rfl : _ = 0) | exact (rfl : _ = 1) | exact (rfl : _ = 2) | exact (rfl : _ = 3) | exact (rfl : _ = 4) | exact (rfl : _ = 5) | exact (rfl : _ = 6) | exact (rfl : _ = 7) | exact (rfl : _ = 8) | exact (rfl : _ = 9) | exact (rfl : _ = 10) | exact (rfl : _ = 11) | exact (rfl : _ = 12) | exact (rfl : _ = 13) | exact (rfl : _ = 14) | exact (rfl : _ = 15) | exact (rfl : _ = 16) | exact (rfl : _ = 17) | exact (rfl : _ = 18) | exact (rfl : _ = 19) | exact (rfl : _ = 20) | exact (rfl : _ = 21) | exact (rfl : _ = 22) | exact (rfl : _ = 23) | exact (rfl : _ = 24) | exact (rfl : _ = 25) | exact (rfl : _ = 26) | exact (rfl : _ = 27) | exact (rfl : _ = 28) | exact (rfl : _ = 29) | exact (rfl : _ = 30) | exact (rfl : _ = 31) | exact (rfl : _ = 32) | exact (rfl : _ = 33) | exact (rfl : _ = 34) | exact (rfl : _ = 35) | exact (rfl : _ = 36) | exact (rfl : _ = 37) | exact (rfl : _ = 38) | exact (rfl : _ = 39)) ?_)) | ((with_reducible refine isCallQ ?_); first | (refine callQ_pure (c_spec_l30Ok _) rfl rfl ?_) | (refine callQ_pure (c_spec_l30Text _) rfl rfl ?_)) | refine sP ?_ | (refine sE ?_; intro x hx) | (refine sF ?_; intro i y hi hy) | (refine sI ?_; intro i hi) | (refine sL ?_; intro hlen) | (refine sQ ?_; intro c hc hcm; try simp only [lnM, lnA, lnC, lnN] at hc) | (refine sX ?_; intro i1 i2 hi1 hi2 hj1 hj2; try simp only [cutL, lnM, lnA, lnC, lnN, lnT, lnD, lnR] at hi1 hi2 hj2) | refine sD ?_ | (refine ret_pick [] rfl rfl rfl ⟨?_, rfl⟩; conv => lhs; whnf) | (refine ret_pick [0] rfl rfl rfl ⟨rfl, ?_⟩) | (refine sH ?_; clear hn he hr Q')))
  refine loop_env (fun k : Nat => [(0,.sl 2 (a.map encNote)),(6,.h 0),(7,.h 1),(8,.h 2),(9,.h 3),(10,.int .i64 k)]) (fun k => [.row 30 1 (T.map encW), .row 9 1 (W.map encS), .row 2 1 ((S.take k).map encI), .row 2 1 ((natI (rankN S Z k)).map encI)]) (fun k => k ≤ a.length) (fun k => a.length - k) 0 (by omega) (by refine weak_to rfl rfl rfl ?_; ((repeat' (first | exact trivial | refine And.intro ?_ ?_)) <;> (first | rfl | (conv => rhs; whnf) <;> (first | rfl | (refine congrArg (D.int _) ?_; omega))))) (fun k hk Q' hn he hr => ?_)
  have hrl := rankN_len S Z k
  have hnl := natI_len (rankN S Z k)
  have hPm : ∀ p ∈ rankN S Z k, p < k := fun p hp => (rankN_mem.1 hp).1
  have hrs := rankN_succ S Z k
  by_cases hkl : k < a.length
  · obtain ⟨s, hSk⟩ : ∃ s, S[k]? = some s := ⟨_, List.getElem?_eq_getElem (by omega)⟩
    obtain ⟨Wk, hTk⟩ : ∃ x, T[k]? = some x := ⟨_, List.getElem?_eq_getElem (by omega)⟩
    have hCs := c_spec_l30Score T k W (by omega) (by omega) (by omega)
    rw [hsat k s hSk] at hCs
    have hZk := hzs k Wk hTk
    rw [getD_of hSk] at hrs
    have hSt : S.take (k + 1) = S.take k ++ [s] := by rw [List.take_add_one, hSk]; rfl
    have hSl : (S.take k).length = k := by rw [List.length_take]; omega
    generalize hP : rankN S Z k = P at *
    repeat' (first | refine sC ?_ | ((with_reducible refine isAwp ?_); first | (refine sS ?_; intro Q' hn he hr) | refine sA ?_) | (refine sH ?_; clear hn he hr Q') | refine sO ?_ | ((conv => whnf); first | refine sK ?_ | (refine sB ?_; repeat' (first | refine sb0 ?_ | (refine sb2 ?_ ?_ <;> intro hb <;> try exact cls))) | ((with_reducible refine isCall ?_); first | (refine call_look (hCs) rfl ?_)) | ((with_reducible refine isCallQ ?_); first | (refine callQ_look (hCs) rfl ?_)) | refine sP ?_ | (refine sE ?_; intro x hx) | (refine sF ?_; intro i y hi hy) | (refine sI ?_; intro i hi) | (refine sL ?_; intro hlen) | (refine sQ ?_; intro c hc hcm; try simp only [lnM, lnA, lnC, lnN] at hc) | (refine sX ?_; intro i1 i2 hi1 hi2 hj1 hj2; try simp only [cutL, lnM, lnA, lnC, lnN, lnT, lnD, lnR] at hi1 hi2 hj2) | refine sD ?_ | (refine ret_pick [] rfl rfl rfl ⟨?_, rfl⟩; conv => lhs; whnf) | (refine ret_pick [0] rfl rfl rfl ⟨rfl, ?_⟩) | (refine sH ?_; clear hn he hr Q')))
    · rw [if_pos hb] at hrs
      exact ⟨k + 1, by omega, by omega, (by refine weak_to rfl rfl (by rw [hSt, hrs, List.map_append]; rfl) ?_; ((repeat' (first | exact trivial | refine And.intro ?_ ?_)) <;> (first | rfl | (conv => rhs; whnf) <;> (first | rfl | (refine congrArg (D.int _) ?_; omega)))))⟩
    · rw [if_neg hb] at hrs
      refine loop_env (fun j : Nat => [(0,.sl 2 (a.map encNote)),(6,.h 0),(7,.h 1),(8,.h 2),(9,.h 3),(10,.int .i64 k),(11,.int .i64 s),(12,.int .i64 j)]) (fun j => [.row 30 1 (T.map encW), .row 9 1 (W.map encS), .row 2 1 ((S.take (k + 1)).map encI), .row 2 1 ((natI P).map encI)]) (fun j => j ≤ P.length ∧ slotF (befN S Z k) P j = slotF (befN S Z k) P P.length) (fun j => j) P.length ⟨by omega, rfl⟩ (by refine weak_to rfl rfl (by rw [hSt, List.map_append]; rfl) ?_; ((repeat' (first | exact trivial | refine And.intro ?_ ?_)) <;> (first | rfl | (conv => rhs; whnf) <;> (first | rfl | (refine congrArg (D.int _) ?_; omega))))) (fun j hj Q' hn he hr => ?_)
      obtain ⟨hjA, hjB⟩ := hj
      have hS2 : (S.take (k + 1)).length = k + 1 := by rw [hSt, List.length_append, hSl]; rfl
      have hTk' : (natI (P.take j)).length = j := by rw [natI_len, List.length_take]; omega
      cases j with
      | zero =>
        repeat' (first | refine sC ?_ | ((with_reducible refine isAwp ?_); first | (refine sS ?_; intro Q' hn he hr) | refine sA ?_) | (refine sH ?_; clear hn he hr Q') | refine sO ?_ | ((conv => whnf); first | refine sK ?_ | (refine sB ?_; repeat' (first | refine sb0 ?_ | (refine sb2 ?_ ?_ <;> intro hb <;> try exact cls))) | ((with_reducible refine isCall ?_); first | (refine call_mk_hs (b := 0) rfl (by omega) (c_spec_l00OwnT (natI P) 0 (by omega)) rfl (flat_one (FlatO.map fun _ => rfl)) (by first | exact (rfl : _ = 0) | exact (rfl : _ = 1) | exact (rfl : _ = 2) | exact (rfl : _ = 3) | exact (rfl : _ = 4) | exact (rfl : _ = 5) | exact (rfl : _ = 6) | exact (rfl : _ = 7) | exact (rfl : _ = 8) | exact (rfl : _ = 9) | exact (rfl : _ = 10) | exact (rfl : _ = 11) | exact (rfl : _ = 12) | exact (rfl : _ = 13) | exact (rfl : _ = 14) | exact (rfl : _ = 15) | exact (rfl : _ = 16) | exact (rfl : _ = 17) | exact (rfl : _ = 18) | exact (rfl : _ = 19) | exact (rfl : _ = 20) | exact (rfl : _ = 21) | exact (rfl : _ = 22) | exact (rfl : _ = 23) | exact (rfl : _ = 24) | exact (rfl : _ = 25) | exact (rfl : _ = 26) | exact (rfl : _ = 27) | exact (rfl : _ = 28) | exact (rfl : _ = 29) | exact (rfl : _ = 30) | exact (rfl : _ = 31) | exact (rfl : _ = 32) | exact (rfl : _ = 33) | exact (rfl : _ = 34) | exact (rfl : _ = 35) | exact (rfl : _ = 36) | exact (rfl : _ = 37) | exact (rfl : _ = 38) | exact (rfl : _ = 39)) ?_)) | refine sP ?_ | (refine sE ?_; intro x hx) | (refine sF ?_; intro i y hi hy) | (refine sI ?_; intro i hi) | (refine sL ?_; intro hlen) | (refine sQ ?_; intro c hc hcm; try simp only [lnM, lnA, lnC, lnN] at hc) | (refine sX ?_; intro i1 i2 hi1 hi2 hj1 hj2; try simp only [cutL, lnM, lnA, lnC, lnN, lnT, lnD, lnR] at hi1 hi2 hj2) | refine sD ?_ | (refine ret_pick [] rfl rfl rfl ⟨?_, rfl⟩; conv => lhs; whnf) | (refine ret_pick [0] rfl rfl rfl ⟨rfl, ?_⟩) | (refine sH ?_; clear hn he hr Q')))
        refine ⟨k + 1, by omega, by omega, ?_⟩
        refine weak_sel [0, 1, 2, 4] rfl ?_ ?_
        · rw [hrs, insR, ← hjB, show slotF (befN S Z k) P 0 = 0 from rfl, natI_ins, ← ins_row]
          exact ⟨⟨rfl, rfl, rfl⟩, ⟨rfl, rfl, rfl⟩, ⟨rfl, rfl, rfl⟩, ⟨rfl, rfl, rfl⟩, trivial⟩
        · exact ⟨rfl, rfl, rfl, rfl, rfl, rfl, trivial⟩
      | succ j =>
        obtain ⟨p, hPp⟩ : ∃ p, P[j]? = some p := ⟨_, List.getElem?_eq_getElem (by omega)⟩
        have hpk := hPm p (List.mem_of_getElem? hPp)
        obtain ⟨sp, hSp⟩ : ∃ s, S[p]? = some s := ⟨_, List.getElem?_eq_getElem (by omega)⟩
        obtain ⟨Wp, hTp⟩ : ∃ x, T[p]? = some x := ⟨_, List.getElem?_eq_getElem (by omega)⟩
        have hZp := hzs p Wp hTp
        have hSp2 : (S.take (k + 1))[p]? = some sp := by rw [List.getElem?_take_of_lt (by omega)]; exact hSp
        have hbef : befN S Z k p = (decide (sp < s) || (decide (sp = s) && decide (Wk.length < Wp.length))) := by
          unfold befN
          rw [getD_of hSp, getD_of hSk, getD_of hZk, getD_of hZp]
        have hat : ((j + 1 : Nat) : Int) - 1 = (j : Int) := by omega
        repeat' (first | refine sC ?_ | ((with_reducible refine isAwp ?_); first | (refine sS ?_; intro Q' hn he hr) | refine sA ?_) | (refine sH ?_; clear hn he hr Q') | refine sO ?_ | ((conv => whnf); first | refine sK ?_ | (refine sB ?_; repeat' (first | refine sb0 ?_ | (refine sb2 ?_ ?_ <;> intro hb <;> try exact cls))) | (refine ElemS.the (natI_at hPp) ?_) | (refine InS.lit j hat (by rw [Nat.blt_eq]; simp only [List.length_map]; omega) ?_) | (refine ElemS.the hSp2 ?_) | (refine ElemS.the hTp ?_) | (refine ElemS.the hTk ?_) | ((with_reducible refine isCall ?_); first | (refine call_mk_hs (b := j + 1) rfl (by simp only [List.length_map]; omega) (c_spec_l00OwnT (natI P) (j + 1) (by omega)) rfl (flat_one (FlatO.map fun _ => rfl)) (by first | exact (rfl : _ = 0) | exact (rfl : _ = 1) | exact (rfl : _ = 2) | exact (rfl : _ = 3) | exact (rfl : _ = 4) | exact (rfl : _ = 5) | exact (rfl : _ = 6) | exact (rfl : _ = 7) | exact (rfl : _ = 8) | exact (rfl : _ = 9) | exact (rfl : _ = 10) | exact (rfl : _ = 11) | exact (rfl : _ = 12) | exact (rfl : _ = 13) | exact (rfl : _ = 14) | exact (rfl : _ = 15) | exact (rfl : _ = 16) | exact (rfl : _ = 17) | exact (rfl : _ = 18) | exact (rfl : _ = 19) | exact (rfl : _ = 20) | exact (rfl : _ = 21) | exact (rfl : _ = 22) | exact (rfl : _ = 23) | exact (rfl : _ = 24) | exact (rfl : _ = 25) | exact (rfl : _ = 26) | exact (rfl : _ = 27) | exact (rfl : _ = 28) | exact (rfl : _ = 29) | exact (rfl : _ = 30) | exact (rfl : _ = 31) | exact (rfl : _ = 32) | exact (rfl : _ = 33) | exact (rfl : _ = 34) | exact (rfl : _ = 35) | exact (rfl : _ = 36) | exact (rfl : _ = 37) | exact (rfl : _ = 38) | exact (rfl : _ = 39)) ?_)) | refine sP ?_ | (refine sE ?_; intro x hx) | (refine sF ?_; intro i y hi hy) | (refine sI ?_; intro i hi) | (refine sL ?_; intro hlen) | (refine sQ ?_; intro c hc hcm; try simp only [lnM, lnA, lnC, lnN] at hc) | (refine sX ?_; intro i1 i2 hi1 hi2 hj1 hj2; try simp only [cutL, lnM, lnA, lnC, lnN, lnT, lnD, lnR] at hi1 hi2 hj2) | refine sD ?_ | (refine ret_pick [] rfl rfl rfl ⟨?_, rfl⟩; conv => lhs; whnf) | (refine ret_pick [0] rfl rfl rfl ⟨rfl, ?_⟩) | (refine sH ?_; clear hn he hr Q')))
        · have hbt : befN S Z k p = true := by rw [hbef]; simp; omega
          exact ⟨j, ⟨by omega, by rw [← slotF_by hPp hbt]; exact hjB⟩, by omega, (by refine weak_to rfl rfl rfl ?_; ((repeat' (first | exact trivial | refine And.intro ?_ ?_)) <;> (first | rfl | (conv => rhs; whnf) <;> (first | rfl | (refine congrArg (D.int _) ?_; omega)))))⟩
        · have hbt : befN S Z k p = true := by rw [hbef]; simp; omega
          exact ⟨j, ⟨by omega, by rw [← slotF_by hPp hbt]; exact hjB⟩, by omega, (by refine weak_to rfl rfl rfl ?_; ((repeat' (first | exact trivial | refine And.intro ?_ ?_)) <;> (first | rfl | (conv => rhs; whnf) <;> (first | rfl | (refine congrArg (D.int _) ?_; omega)))))⟩
        · have hbt : ¬ befN S Z k p = true := by rw [hbef]; simp; omega
          rw [slotF_stop hPp hbt] at hjB
          obtain rfl : i1 = j + 1 := by omega
          refine ⟨k + 1, by omega, by omega, ?_⟩
          refine weak_sel [0, 1, 2, 4] rfl ?_ ?_
          · rw [hrs, insR, ← hjB, natI_ins, ← ins_row]
            exact ⟨⟨rfl, rfl, rfl⟩, ⟨rfl, rfl, rfl⟩, ⟨rfl, rfl, rfl⟩, ⟨rfl, rfl, rfl⟩, trivial⟩
          · exact ⟨rfl, rfl, rfl, rfl, rfl, rfl, trivial⟩
        · have hbt : ¬ befN S Z k p = true := by rw [hbef]; simp; omega
          rw [slotF_stop hPp hbt] at hjB
          obtain rfl : i1 = j + 1 := by omega
          refine ⟨k + 1, by omega, by omega, ?_⟩
          refine weak_sel [0, 1, 2, 4] rfl ?_ ?_
          · rw [hrs, insR, ← hjB, natI_ins, ← ins_row]
            exact ⟨⟨rfl, rfl, rfl⟩, ⟨rfl, rfl, rfl⟩, ⟨rfl, rfl, rfl⟩, ⟨rfl, rfl, rfl⟩, trivial⟩
          · exact ⟨rfl, rfl, rfl, rfl, rfl, rfl, trivial⟩
  · repeat' (first | refine sC ?_ | ((with_reducible refine isAwp ?_); first | (refine sS ?_; intro Q' hn he hr) | refine sA ?_) | (refine sH ?_; clear hn he hr Q') | refine sO ?_ | ((conv => whnf); first | refine sK ?_ | (refine sB ?_; repeat' (first | refine sb0 ?_ | (refine sb2 ?_ ?_ <;> intro hb <;> try exact cls))) | ((with_reducible refine isRet ?_); first | (refine ret_pick [3] rfl rfl rfl ⟨rfl, ?_⟩)) | refine sP ?_ | (refine sE ?_; intro x hx) | (refine sF ?_; intro i y hi hy) | (refine sI ?_; intro i hi) | (refine sL ?_; intro hlen) | (refine sQ ?_; intro c hc hcm; try simp only [lnM, lnA, lnC, lnN] at hc) | (refine sX ?_; intro i1 i2 hi1 hi2 hj1 hj2; try simp only [cutL, lnM, lnA, lnC, lnN, lnT, lnD, lnR] at hi1 hi2 hj2) | refine sD ?_ | (refine ret_pick [] rfl rfl rfl ⟨?_, rfl⟩; conv => lhs; whnf) | (refine ret_pick [0] rfl rfl rfl ⟨rfl, ?_⟩) | (refine sH ?_; clear hn he hr Q')))
    rw [show k = a.length by omega]
    rfl
end Go.Eng
