/-
  All findings of a house, by the program and by the reference; whether a house passes.
  No conditions.
-/
import Derived.Test.YtigdnelbanaieaaGreatDoorED
import Derived.Test.YtigdnelbanaieaaGreatDoorFE
import Derived.Test.YtigdnelbanaieaaGreatDoorFU
import Derived.Test.YtigdnelbanaieaaGreatDoorFQ3
import Derived.Test.YtigdnelbanaieaaGreatDoorFM
import Derived.Test.YtigdnelbanaieaaGreatDoorGC
set_option linter.unusedVariables false
set_option linter.unusedSimpArgs false
set_option maxHeartbeats 4000000
namespace Go.Eng
open Go Go.RowKit Go.Proofs
set_option maxRecDepth 100000
noncomputable def auditF (h : THouse) : List TFinding := domF h ++ cueAll h ++ seatAll h ++ medAll h
theorem auditF_len {h : THouse} (hv : houseB h = true) : (auditF h).length ≤ 2000 := by
  have h1 := domF_len h
  have h2 := cueAll_len hv
  have h3 : (seatAll h).length ≤ h.fBooked.length := seatF_len h h.fBooked.length
  have h4 : (medAll h).length ≤ h.fNeeds.length := medF_len h.fMedia h.fBandwidth h.fNeeds h.fNeeds.length
  obtain ⟨_, h5, _⟩ := houseB_media hv
  have h6 := needs_len h5
  have h7 := booked_len hv
  unfold auditF
  simp only [List.length_append]
  omega
theorem parts_len {h : THouse} (hv : houseB h = true) : (domF h).length ≤ 480 ∧ (cueAll h).length ≤ 1200 ∧ (seatAll h).length ≤ 120 ∧ (medAll h).length ≤ 16 := by
  have h1 := domF_len h
  have h2 := cueAll_len hv
  have h3 : (seatAll h).length ≤ h.fBooked.length := seatF_len h h.fBooked.length
  have h4 : (medAll h).length ≤ h.fNeeds.length := medF_len h.fMedia h.fBandwidth h.fNeeds h.fNeeds.length
  obtain ⟨_, h5, _⟩ := houseB_media hv
  have h6 := needs_len h5
  have h7 := booked_len hv
  omega
def GA : Nat → Option (List D) := fun g => if g = 2 then some (Lib.pow10Tab.map fun z => .int .u64 z) else if g = 0 then some (codeL.map .str) else if g = 1 then some (sineT.map (.int .i64)) else none
theorem FnC.aS {f : FuncId} {pin : Nat} {os : List Obj} {ds : List D} {post : D → List Obj → Prop} (h : FnC Tryz.prog f GSP pin os ds post) : FnC Tryz.prog f GA pin os ds post := h.moreG fun g cs hg => by
  unfold GSP at hg
  split at hg
  · rename_i e; subst e; cases hg; rfl
  · split at hg
    · rename_i e; subst e; cases hg; rfl
    · cases hg
theorem FnC.aK {f : FuncId} {pin : Nat} {os : List Obj} {ds : List D} {post : D → List Obj → Prop} (h : FnC Tryz.prog f GK pin os ds post) : FnC Tryz.prog f GA pin os ds post := FnC.up1 h rfl
theorem FnC.aP {f : FuncId} {pin : Nat} {os : List Obj} {ds : List D} {post : D → List Obj → Prop} (h : FnC Tryz.prog f GP pin os ds post) : FnC Tryz.prog f GA pin os ds post := FnC.up1 h rfl
theorem audit_cat {h : THouse} : ([domF h, cueAll h, seatAll h, medAll h] : List (List TFinding)).flatten = auditF h := by
  simp [auditF]
theorem audit_map (h : THouse) : [] ++ (domF h).map encFinding ++ (cueAll h).map encFinding ++ (seatAll h).map encFinding ++ (medAll h).map encFinding = (auditF h).map encFinding := by
  simp [auditF]
theorem audit_n {h : THouse} (hv : houseB h = true) : catN [domF h, cueAll h, seatAll h, medAll h] ≤ 1000000 := by
  have := auditF_len hv
  rw [← flat_len, audit_cat]
  omega
set_option maxHeartbeats 8000000 in
theorem c_impl_AuditHouse_ok (h : THouse) (hv : houseB h = true) : FnC Tryz.prog 7 GA 0 [] [.agg (encHouse h)] (fun d os => d = .tup [.h 0, .int .i64 0] ∧ os = [.row 78 3 ((auditF h).map encFinding)]) := by
  have hc := c_slices_Concat [domF h, cueAll h, seatAll h, medAll h] (by simp) (audit_n hv)
  rw [audit_cat] at hc
  refine fn_rule Tryz.func7 rfl (by decide +kernel) rfl (fun w0 F0 lent β0 => ?_)
  repeat' (first | refine sC ?_ | ((with_reducible refine isAwp ?_); first | (refine sS ?_; intro Q' hn he hr) | refine sA ?_) | (refine sH ?_; clear hn he hr Q') | refine sO ?_ | ((conv => whnf); first | refine sK ?_ | (refine sB ?_; repeat' (refine sb2 ?_ ?_ <;> intro hb <;> try exact cls)) | ((with_reducible refine isCall ?_); first | (refine call_pure ((c_impl_ValidHouse h).anyG) rfl rfl ?_) | (refine call_mk_look hc.anyG rfl (flat_one (FlatO.map fun _ => rfl)) (by first | exact (rfl : _ = 0) | exact (rfl : _ = 1) | exact (rfl : _ = 2) | exact (rfl : _ = 3) | exact (rfl : _ = 4) | exact (rfl : _ = 5) | exact (rfl : _ = 6) | exact (rfl : _ = 7) | exact (rfl : _ = 8) | exact (rfl : _ = 9) | exact (rfl : _ = 10) | exact (rfl : _ = 11) | exact (rfl : _ = 12) | exact (rfl : _ = 13) | exact (rfl : _ = 14) | exact (rfl : _ = 15) | exact (rfl : _ = 16) | exact (rfl : _ = 17) | exact (rfl : _ = 18) | exact (rfl : _ = 19) | exact (rfl : _ = 20) | exact (rfl : _ = 21) | exact (rfl : _ = 22) | exact (rfl : _ = 23) | exact (rfl : _ = 24) | exact (rfl : _ = 25) | exact (rfl : _ = 26) | exact (rfl : _ = 27) | exact (rfl : _ = 28) | exact (rfl : _ = 29) | exact (rfl : _ = 30) | exact (rfl : _ = 31) | exact (rfl : _ = 32) | exact (rfl : _ = 33) | exact (rfl : _ = 34) | exact (rfl : _ = 35) | exact (rfl : _ = 36) | exact (rfl : _ = 37) | exact (rfl : _ = 38) | exact (rfl : _ = 39)) ?_)) | ((with_reducible refine isCallQ ?_); first | (refine callQ_plain (.sl 3 ((domF h).map encFinding)) (c_impl_domeFindings h hv).aS rfl (by rintro d os ⟨rfl, rfl⟩; rfl) ?_) | (refine callQ_plain (.sl 3 ((cueAll h).map encFinding)) (c_impl_cueFindings h hv).aK rfl (by rintro d os ⟨rfl, rfl⟩; rfl) ?_) | (refine callQ_plain (.sl 3 ((seatAll h).map encFinding)) (c_impl_seatFindings h hv).aS rfl (by rintro d os ⟨rfl, rfl⟩; rfl) ?_) | (refine callQ_plain (.sl 3 ((medAll h).map encFinding)) (c_impl_mediaFindings h hv).aP rfl (by rintro d os ⟨rfl, rfl⟩; rfl) ?_)) | ((with_reducible refine isRet ?_); (refine ret_pick [2] rfl rfl rfl ⟨rfl, rfl⟩)) | refine sD ?_))
theorem c_impl_AuditHouse_bad (h : THouse) (hv : houseB h = false) : FnC Tryz.prog 7 G0 0 [] [.agg (encHouse h)] (fun d os => d = .tup [.sl 3 [], .int .i64 1] ∧ os = []) := by
  refine fn_rule Tryz.func7 rfl (by decide +kernel) rfl (fun w0 F0 lent β0 => ?_)
  repeat' (first | refine sC ?_ | ((with_reducible refine isAwp ?_); first | (refine sS ?_; intro Q' hn he hr) | refine sA ?_) | (refine sH ?_; clear hn he hr Q') | ((conv => whnf); first | refine sK ?_ | (refine sB ?_; repeat' (refine sb2 ?_ ?_ <;> intro hb <;> try exact cls)) | ((with_reducible refine isCall ?_); (refine call_pure (c_impl_ValidHouse h) rfl rfl ?_)) | ((with_reducible refine isRet ?_); (refine ret_nil 3 ?_; refine ret_pick [] rfl rfl rfl ⟨rfl, rfl⟩))))
set_option maxHeartbeats 8000000 in
theorem c_spec_l31All (h : THouse) (r : List D) (hv : houseB h = true) : FnC Tryz.prog 23 G0 0 [] [.rp (encHouseR h r)] (fun d os => d = .h 0 ∧ os = [.row 78 3 ((auditF h).map encFinding)]) := by
  obtain ⟨l1, l2, l3, l4⟩ := parts_len hv
  refine fn_rule Tryz.func23 rfl (by decide +kernel) rfl (fun w0 F0 lent β0 => ?_)
  repeat' (first | refine sC ?_ | ((with_reducible refine isAwp ?_); first | (refine sS ?_; intro Q' hn he hr) | refine sA ?_) | (refine sH ?_; clear hn he hr Q') | ((conv => whnf); first | refine sK ?_ | ((with_reducible refine isCall ?_); first | (refine call_mk (c_spec_l31Dome h r hv) rfl (by first | exact (rfl : _ = 0) | exact (rfl : _ = 1) | exact (rfl : _ = 2) | exact (rfl : _ = 3) | exact (rfl : _ = 4) | exact (rfl : _ = 5) | exact (rfl : _ = 6) | exact (rfl : _ = 7) | exact (rfl : _ = 8) | exact (rfl : _ = 9) | exact (rfl : _ = 10) | exact (rfl : _ = 11) | exact (rfl : _ = 12) | exact (rfl : _ = 13) | exact (rfl : _ = 14) | exact (rfl : _ = 15) | exact (rfl : _ = 16) | exact (rfl : _ = 17) | exact (rfl : _ = 18) | exact (rfl : _ = 19) | exact (rfl : _ = 20) | exact (rfl : _ = 21) | exact (rfl : _ = 22) | exact (rfl : _ = 23) | exact (rfl : _ = 24) | exact (rfl : _ = 25) | exact (rfl : _ = 26) | exact (rfl : _ = 27) | exact (rfl : _ = 28) | exact (rfl : _ = 29) | exact (rfl : _ = 30) | exact (rfl : _ = 31) | exact (rfl : _ = 32) | exact (rfl : _ = 33) | exact (rfl : _ = 34) | exact (rfl : _ = 35) | exact (rfl : _ = 36) | exact (rfl : _ = 37) | exact (rfl : _ = 38) | exact (rfl : _ = 39)) ?_) | (refine call_mk (c_spec_l31Cue h r hv) rfl (by first | exact (rfl : _ = 0) | exact (rfl : _ = 1) | exact (rfl : _ = 2) | exact (rfl : _ = 3) | exact (rfl : _ = 4) | exact (rfl : _ = 5) | exact (rfl : _ = 6) | exact (rfl : _ = 7) | exact (rfl : _ = 8) | exact (rfl : _ = 9) | exact (rfl : _ = 10) | exact (rfl : _ = 11) | exact (rfl : _ = 12) | exact (rfl : _ = 13) | exact (rfl : _ = 14) | exact (rfl : _ = 15) | exact (rfl : _ = 16) | exact (rfl : _ = 17) | exact (rfl : _ = 18) | exact (rfl : _ = 19) | exact (rfl : _ = 20) | exact (rfl : _ = 21) | exact (rfl : _ = 22) | exact (rfl : _ = 23) | exact (rfl : _ = 24) | exact (rfl : _ = 25) | exact (rfl : _ = 26) | exact (rfl : _ = 27) | exact (rfl : _ = 28) | exact (rfl : _ = 29) | exact (rfl : _ = 30) | exact (rfl : _ = 31) | exact (rfl : _ = 32) | exact (rfl : _ = 33) | exact (rfl : _ = 34) | exact (rfl : _ = 35) | exact (rfl : _ = 36) | exact (rfl : _ = 37) | exact (rfl : _ = 38) | exact (rfl : _ = 39)) ?_) | (refine call_mk (c_spec_l31Seat h r hv) rfl (by first | exact (rfl : _ = 0) | exact (rfl : _ = 1) | exact (rfl : _ = 2) | exact (rfl : _ = 3) | exact (rfl : _ = 4) | exact (rfl : _ = 5) | exact (rfl : _ = 6) | exact (rfl : _ = 7) | exact (rfl : _ = 8) | exact (rfl : _ = 9) | exact (rfl : _ = 10) | exact (rfl : _ = 11) | exact (rfl : _ = 12) | exact (rfl : _ = 13) | exact (rfl : _ = 14) | exact (rfl : _ = 15) | exact (rfl : _ = 16) | exact (rfl : _ = 17) | exact (rfl : _ = 18) | exact (rfl : _ = 19) | exact (rfl : _ = 20) | exact (rfl : _ = 21) | exact (rfl : _ = 22) | exact (rfl : _ = 23) | exact (rfl : _ = 24) | exact (rfl : _ = 25) | exact (rfl : _ = 26) | exact (rfl : _ = 27) | exact (rfl : _ = 28) | exact (rfl : _ = 29) | exact (rfl : _ = 30) | exact (rfl : _ = 31) | exact (rfl : _ = 32) | exact (rfl : _ = 33) | exact (rfl : _ = 34) | exact (rfl : _ = 35) | exact (rfl : _ = 36) | exact (rfl : _ = 37) | exact (rfl : _ = 38) | exact (rfl : _ = 39)) ?_) | (refine call_mk (c_spec_l31Media h r hv) rfl (by first | exact (rfl : _ = 0) | exact (rfl : _ = 1) | exact (rfl : _ = 2) | exact (rfl : _ = 3) | exact (rfl : _ = 4) | exact (rfl : _ = 5) | exact (rfl : _ = 6) | exact (rfl : _ = 7) | exact (rfl : _ = 8) | exact (rfl : _ = 9) | exact (rfl : _ = 10) | exact (rfl : _ = 11) | exact (rfl : _ = 12) | exact (rfl : _ = 13) | exact (rfl : _ = 14) | exact (rfl : _ = 15) | exact (rfl : _ = 16) | exact (rfl : _ = 17) | exact (rfl : _ = 18) | exact (rfl : _ = 19) | exact (rfl : _ = 20) | exact (rfl : _ = 21) | exact (rfl : _ = 22) | exact (rfl : _ = 23) | exact (rfl : _ = 24) | exact (rfl : _ = 25) | exact (rfl : _ = 26) | exact (rfl : _ = 27) | exact (rfl : _ = 28) | exact (rfl : _ = 29) | exact (rfl : _ = 30) | exact (rfl : _ = 31) | exact (rfl : _ = 32) | exact (rfl : _ = 33) | exact (rfl : _ = 34) | exact (rfl : _ = 35) | exact (rfl : _ = 36) | exact (rfl : _ = 37) | exact (rfl : _ = 38) | exact (rfl : _ = 39)) ?_)) | refine sP ?_ | (refine ret_pick [0] rfl rfl rfl ⟨rfl, ?_⟩)))
  all_goals exact congrArg (fun x => [Obj.row 78 3 x]) (audit_map h)
theorem c_spec_AuditHouse_bad (h : THouse) (hv : houseB h = false) : FnC Tryz.prog 5 G0 0 [] [.agg (encHouse h)] (fun d os => d = .tup [.sl 3 [], .int .i64 1] ∧ os = []) := by
  refine fn_rule Tryz.func5 rfl (by decide +kernel) rfl (fun w0 F0 lent β0 => ?_)
  repeat' (first | refine sC ?_ | ((with_reducible refine isAwp ?_); first | (refine sS ?_; intro Q' hn he hr) | refine sA ?_) | (refine sH ?_; clear hn he hr Q') | refine sO ?_ | ((conv => whnf); first | refine sK ?_ | (refine sB ?_; repeat' (first | refine sb0 ?_ | (refine sb2 ?_ ?_ <;> intro hb <;> try exact cls))) | ((with_reducible refine isCall ?_); (refine call_look (c_spec_l31Ok h []) rfl ?_)) | ((with_reducible refine isCallQ ?_); (refine callQ_look (c_spec_l31Ok h []) rfl ?_)) | ((with_reducible refine isRet ?_); (refine ret_nil 3 ?_; refine ret_pick [] rfl rfl rfl ⟨rfl, rfl⟩)) | refine sP ?_ | (refine sE ?_; intro x hx) | (refine sF ?_; intro i y hi hy) | (refine sI ?_; intro i hi) | (refine sL ?_; intro hlen) | (refine sQ ?_; intro c hc hcm; try simp only [lnM, lnA, lnC, lnN] at hc) | (refine sX ?_; intro i1 i2 hi1 hi2 hj1 hj2; try simp only [cutL, lnM, lnA, lnC, lnN, lnT, lnD, lnR] at hi1 hi2 hj2) | refine sD ?_ | (refine ret_pick [] rfl rfl rfl ⟨?_, rfl⟩; conv => lhs; whnf) | (refine ret_pick [0] rfl rfl rfl ⟨rfl, ?_⟩) | (refine sH ?_; clear hn he hr Q')))
theorem c_spec_AuditHouse_ok (h : THouse) (hv : houseB h = true) : FnC Tryz.prog 5 G0 0 [] [.agg (encHouse h)] (fun d os => d = .tup [.h 0, .int .i64 0] ∧ os = [.row 78 3 ((auditF h).map encFinding)]) := by
  refine fn_rule Tryz.func5 rfl (by decide +kernel) rfl (fun w0 F0 lent β0 => ?_)
  repeat' (first | refine sC ?_ | ((with_reducible refine isAwp ?_); first | (refine sS ?_; intro Q' hn he hr) | refine sA ?_) | (refine sH ?_; clear hn he hr Q') | refine sO ?_ | ((conv => whnf); first | refine sK ?_ | (refine sB ?_; repeat' (first | refine sb0 ?_ | (refine sb2 ?_ ?_ <;> intro hb <;> try exact cls))) | ((with_reducible refine isCall ?_); first | (refine call_look (c_spec_l31Ok h []) rfl ?_) | (refine call_mk_look (c_spec_l31All h [] hv) rfl (flat_one (FlatO.map fun _ => rfl)) (by first | exact (rfl : _ = 0) | exact (rfl : _ = 1) | exact (rfl : _ = 2) | exact (rfl : _ = 3) | exact (rfl : _ = 4) | exact (rfl : _ = 5) | exact (rfl : _ = 6) | exact (rfl : _ = 7) | exact (rfl : _ = 8) | exact (rfl : _ = 9) | exact (rfl : _ = 10) | exact (rfl : _ = 11) | exact (rfl : _ = 12) | exact (rfl : _ = 13) | exact (rfl : _ = 14) | exact (rfl : _ = 15) | exact (rfl : _ = 16) | exact (rfl : _ = 17) | exact (rfl : _ = 18) | exact (rfl : _ = 19) | exact (rfl : _ = 20) | exact (rfl : _ = 21) | exact (rfl : _ = 22) | exact (rfl : _ = 23) | exact (rfl : _ = 24) | exact (rfl : _ = 25) | exact (rfl : _ = 26) | exact (rfl : _ = 27) | exact (rfl : _ = 28) | exact (rfl : _ = 29) | exact (rfl : _ = 30) | exact (rfl : _ = 31) | exact (rfl : _ = 32) | exact (rfl : _ = 33) | exact (rfl : _ = 34) | exact (rfl : _ = 35) | exact (rfl : _ = 36) | exact (rfl : _ = 37) | exact (rfl : _ = 38) | exact (rfl : _ = 39)) ?_)) | ((with_reducible refine isCallQ ?_); (refine callQ_look (c_spec_l31Ok h []) rfl ?_)) | ((with_reducible refine isRet ?_); (refine ret_pick [1] rfl rfl rfl ⟨rfl, rfl⟩)) | refine sP ?_ | (refine sE ?_; intro x hx) | (refine sF ?_; intro i y hi hy) | (refine sI ?_; intro i hi) | (refine sL ?_; intro hlen) | (refine sQ ?_; intro c hc hcm; try simp only [lnM, lnA, lnC, lnN] at hc) | (refine sX ?_; intro i1 i2 hi1 hi2 hj1 hj2; try simp only [cutL, lnM, lnA, lnC, lnN, lnT, lnD, lnR] at hi1 hi2 hj2) | refine sD ?_ | (refine ret_pick [] rfl rfl rfl ⟨?_, rfl⟩; conv => lhs; whnf) | (refine ret_pick [0] rfl rfl rfl ⟨rfl, ?_⟩) | (refine sH ?_; clear hn he hr Q')))
end Go.Eng
