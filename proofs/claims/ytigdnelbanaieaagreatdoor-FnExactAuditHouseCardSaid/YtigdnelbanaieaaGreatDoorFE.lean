/-
  The findings of the dome: the contract of the program's function.
  No conditions.
-/
import Derived.Test.YtigdnelbanaieaaGreatDoorED
import Derived.Test.YtigdnelbanaieaaGreatDoorFD
import Derived.Test.YtigdnelbanaieaaGreatDoorJL
set_option linter.unusedVariables false
set_option linter.unusedSimpArgs false
set_option maxHeartbeats 4000000
namespace Go.Eng
open Go Go.RowKit Go.Proofs
set_option maxRecDepth 100000
set_option maxHeartbeats 8000000 in
theorem c_impl_domeFindings (h : THouse) (hv : houseB h = true) : FnC Tryz.prog 35 GSP 0 [] [.agg (encHouse h)] (fun d os => d = .h 0 ∧ os = [.row 78 3 ((domF h).map encFinding)]) := by
  obtain ⟨h1, h2⟩ := houseB_dome hv
  have hdl := darkL_len h.fProjectors (spotsL h.fStep)
  have hsl := spotsL_len h.fStep
  refine fn_rule Tryz.func35 rfl (by decide +kernel) rfl (fun w0 F0 lent β0 => ?_)
  repeat' (first | refine sC ?_ | ((with_reducible refine isAwp ?_); first | (refine sS ?_; intro Q' hn he hr) | refine sA ?_) | (refine sH ?_; clear hn he hr Q') | ((conv => whnf); first | refine sK ?_ | ((with_reducible refine isCall ?_); (refine call_pure ((c_impl_DarkSpots h.fProjectors h.fStep h1 h2).spS) rfl rfl ?_)) | (refine sL ?_; intro hlen)))
  refine loop_env (fun k : Nat => [(5,.h 1),(16,.sl 1 ((darkL h.fProjectors (spotsL h.fStep)).map encSpot)),(17,.int .i64 (darkL h.fProjectors (spotsL h.fStep)).length),(18,.int .i64 k)]) (fun k => [.box (encHouse h), .row 78 3 ((domTo h k).map encFinding)]) (fun k => k ≤ (darkL h.fProjectors (spotsL h.fStep)).length) (fun k => (darkL h.fProjectors (spotsL h.fStep)).length - k) 0 (by omega) (by refine Weak.trans (weak_adopt 5 78 3 rfl rfl) (weak_to rfl rfl rfl ?_); exact ⟨rfl, rfl, rfl, rfl, trivial⟩) (fun k hk Q' hn he hr => ?_)
  have hml := domTo_len h k
  by_cases hkl : k < (darkL h.fProjectors (spotsL h.fStep)).length
  · obtain ⟨t, ht⟩ : ∃ t, (darkL h.fProjectors (spotsL h.fStep))[k]? = some t := ⟨_, List.getElem?_eq_getElem hkl⟩
    obtain ⟨a, z, rfl, ha, hh⟩ := spotsL_mem (by omega) (darkL_mem (List.mem_of_getElem? ht))
    have hlt := c_impl_ListText [a, z] ⟨by simp, by simp⟩ (by
      intro k n hk
      match k, hk with
      | 0, hk => cases hk; omega
      | 1, hk => cases hk; omega)
    repeat' (first | refine sC ?_ | ((with_reducible refine isAwp ?_); first | (refine sS ?_; intro Q' hn he hr) | refine sA ?_) | (refine sH ?_; clear hn he hr Q') | ((conv => whnf); first | refine sK ?_ | (refine sB ?_; repeat' (refine sb2 ?_ ?_ <;> intro hb <;> try exact cls)) | (refine ElemS.the ht ?_) | ((with_reducible refine isCall ?_); (refine call_pure (hlt.spP) rfl rfl ?_)) | refine sP ?_))
    refine ⟨k + 1, by omega, by omega, ?_⟩
    exact (by refine weak_to rfl rfl (by rw [domTo_succ ht, List.map_append]; rfl) ?_; ((repeat' (first | exact trivial | refine And.intro ?_ ?_)) <;> (first | rfl | (conv => rhs; whnf) <;> (first | rfl | (refine congrArg (D.int _) ?_; omega)))))
  · obtain rfl : k = (darkL h.fProjectors (spotsL h.fStep)).length := by omega
    repeat' (first | refine sC ?_ | ((with_reducible refine isAwp ?_); first | (refine sS ?_; intro Q' hn he hr) | refine sA ?_) | (refine sH ?_; clear hn he hr Q') | ((conv => whnf); first | refine sK ?_ | (refine sB ?_; repeat' (refine sb2 ?_ ?_ <;> intro hb <;> try exact cls)) | ((with_reducible refine isRet ?_); (refine ret_pick [1] rfl rfl rfl ⟨rfl, ?_⟩)) | (refine sH ?_; clear hn he hr Q')))
    unfold domTo
    rw [List.take_length]
    rfl
end Go.Eng
