/-
  Marks of texts, lists of numbers and of texts: what the scaffolding functions do.
  No conditions.
-/
import Derived.Test.YthhmhmbdfahkjaaDoorEng34
import Derived.Test.YthhmhmbdfahkjaaDoorProg
namespace Go.Eng
open Go Go.RowKit Go.Proofs
set_option maxRecDepth 100000

theorem c_markText (k : Int) (h : k ≤ 9223372036854775807) : FnC Tryd.prog 43 G0 0 [] [.int .i64 k] (fun d os => d = .str (mtext k) ∧ os = []) := by
  refine fn_rule Tryd.func43 rfl (by decide +kernel) rfl (fun w0 F0 lent β0 => ?_)
  repeat' (first
           | (with_reducible refine awp_seq_k (fun Q' hn he hr => ?_))
           | (with_reducible refine awp_block_k (fun Q' hn he hr => ?_))
           | (with_reducible refine awp_cond_k ?_)
           | (with_reducible refine awp_region_k ?_)
           | (with_reducible refine awp_draw_k ?_)
           | (with_reducible refine awp_ret_k ?_)
           | (with_reducible refine awp_exit_k ?_)
           | (with_reducible refine awp_skip_k ?_)
           | (with_reducible refine awp_label_k ?_)
           | (with_reducible refine awp_scope_k ?_)
           | (with_reducible refine awp_loop_k ?_)
           | (with_reducible refine hn _ ?_; clear hn he hr Q')
           | (with_reducible refine hr _ ?_; clear hn he hr Q')
           | (with_reducible refine he _ _ ?_; clear hn he hr Q')
           | (conv => whnf
              first
              | ((first | (with_reducible refine br_t ?_) | (with_reducible refine br_f ?_) | (with_reducible refine br_c ?_)); repeat' (first | (with_reducible refine Br.tt ?_) | (with_reducible refine Br.ff ?_) | (with_reducible refine Br.nt ?_) | (with_reducible refine Br.nf ?_) | (with_reducible refine Br.condt ?_) | (with_reducible refine Br.condf ?_) | (with_reducible refine Br.ncondt ?_) | (with_reducible refine Br.ncondf ?_) | ((first | (with_reducible refine Br.lt (fun hb => ?_) (fun hb => ?_)) | (with_reducible refine Br.le (fun hb => ?_) (fun hb => ?_)) | (with_reducible refine Br.eqn (fun hb => ?_) (fun hb => ?_)) | (with_reducible refine Br.nlt (fun hb => ?_) (fun hb => ?_)) | (with_reducible refine Br.nle (fun hb => ?_) (fun hb => ?_)) | (with_reducible refine Br.neqn (fun hb => ?_) (fun hb => ?_)) | (with_reducible refine Br.dec (fun hb => ?_) (fun hb => ?_)) | (with_reducible refine Br.beq (fun hb => ?_) (fun hb => ?_)) | (with_reducible refine Br.ndec (fun hb => ?_) (fun hb => ?_)) | (with_reducible refine Br.nbeq (fun hb => ?_) (fun hb => ?_)) | (with_reducible refine Br.nsym (fun hb => ?_) (fun hb => ?_)) | (with_reducible refine Br.sym (fun hb => ?_) (fun hb => ?_))) <;> (try (first | exact absurd rfl hb | exact absurd (hb.symm.trans hv) (by decide) | exact absurd (hb.symm.trans hv2) (by decide) | exact absurd (hb.symm.trans hv3) (by decide) | exact absurd hb (List.cons_ne_nil _ _) | exact absurd hb (by decide) | (exfalso; omega))))))
              | (refine LenS.nil ?_)
              | (refine LenS.map fun hlen => ?_)
              | (refine LenS.int fun hlen => ?_)
              | (refine ArithS.in64 (by omega) ?_)
              | (refine MakeS.nat rfl (by omega) ?_)
              | (refine InS.fill (by omega) ?_)
              | (refine ElemS.fill (by omega) ?_)
              | (refine InS.nat (by omega) ?_)
              | (refine ElemS.the (by assumption) ?_)
              | (refine ElemS.nat (by omega) fun x hx => ?_)
              | (refine ByteS.the (by assumption) ?_)
              | (refine ByteS.nat (by omega) fun x hx => ?_)
              | (refine ElemS.at (by omega) fun i y hi hy => ?_)
              | (refine ByteS.at (by omega) fun i y hi hy => ?_)
              | (refine InS.at (by omega) fun i hi => ?_)
              | (refine AskS.app rfl (by simp only [List.length_map, List.length_append, List.length_cons, List.length_nil]; omega) ?_)
              | (refine draw_k (by decide +kernel) (by decide +kernel) ?_)
              | (refine draw_kb (by decide +kernel) (by decide +kernel) ?_)
              | (refine ret_pick [] rfl rfl rfl ⟨?_, rfl⟩; conv => lhs; whnf)
              | (refine ret_pick [0] rfl rfl rfl ⟨rfl, ?_⟩)
              | (refine he _ _ ?_; clear hn he hr Q') | (refine hn _ ?_; clear hn he hr Q') | (refine hr _ ?_; clear hn he hr Q')))
  · show D.str [109, 48] = _
    rw [mtext, if_pos hb]
  · refine loop_env (γ := Nat × Nat × List UInt8) (fun x => [(0,.int .i64 x.2.1),(3,.str x.2.2)]) (fun _ => []) (fun x => digs x.1 x.2.1 x.2.2 = digs 20 k.toNat [] ∧ x.2.1 < 10 ^ x.1 ∧ x.2.2.length + x.1 ≤ 20 ∧ x.2.1 ≤ k.toNat) (fun x => x.1) (20, k.toNat, []) ⟨rfl, (show k.toNat < 100000000000000000000 from by omega), by simp, Nat.le_refl _⟩ (by refine weak_to rfl rfl rfl ⟨?_, rfl, trivial⟩; (conv => rhs; whnf); refine congrArg (D.int _) ?_; show ((k.toNat : Nat) : Int) = k; omega) (fun x hk Q' hn he hr => ?_)
    obtain ⟨f, n, l⟩ := x
    obtain ⟨h1, h2, h3, h4⟩ := hk
    simp only at h1 h2 h3 h4 hn
    have hmax : (l.length : Int) + 1 ≤ maxLen := by simp only [maxLen]; omega
    show awp _ _ Q' ⟨[(0,.int .i64 n),(3,.str l)], _, [], _, _⟩
    repeat' (first
             | (with_reducible refine awp_seq_k (fun Q' hn he hr => ?_))
             | (with_reducible refine awp_block_k (fun Q' hn he hr => ?_))
             | (with_reducible refine awp_cond_k ?_)
             | (with_reducible refine awp_region_k ?_)
             | (with_reducible refine awp_draw_k ?_)
             | (with_reducible refine awp_ret_k ?_)
             | (with_reducible refine awp_exit_k ?_)
             | (with_reducible refine awp_skip_k ?_)
             | (with_reducible refine awp_label_k ?_)
             | (with_reducible refine awp_scope_k ?_)
             | (with_reducible refine awp_loop_k ?_)
             | (with_reducible refine hn _ ?_; clear hn he hr Q')
             | (with_reducible refine hr _ ?_; clear hn he hr Q')
             | (with_reducible refine he _ _ ?_; clear hn he hr Q')
             | (conv => whnf
                first
                | ((first | (with_reducible refine br_t ?_) | (with_reducible refine br_f ?_) | (with_reducible refine br_c ?_)); repeat' (first | (with_reducible refine Br.tt ?_) | (with_reducible refine Br.ff ?_) | (with_reducible refine Br.nt ?_) | (with_reducible refine Br.nf ?_) | (with_reducible refine Br.condt ?_) | (with_reducible refine Br.condf ?_) | (with_reducible refine Br.ncondt ?_) | (with_reducible refine Br.ncondf ?_) | ((first | (with_reducible refine Br.lt (fun hb => ?_) (fun hb => ?_)) | (with_reducible refine Br.le (fun hb => ?_) (fun hb => ?_)) | (with_reducible refine Br.eqn (fun hb => ?_) (fun hb => ?_)) | (with_reducible refine Br.nlt (fun hb => ?_) (fun hb => ?_)) | (with_reducible refine Br.nle (fun hb => ?_) (fun hb => ?_)) | (with_reducible refine Br.neqn (fun hb => ?_) (fun hb => ?_)) | (with_reducible refine Br.dec (fun hb => ?_) (fun hb => ?_)) | (with_reducible refine Br.beq (fun hb => ?_) (fun hb => ?_)) | (with_reducible refine Br.ndec (fun hb => ?_) (fun hb => ?_)) | (with_reducible refine Br.nbeq (fun hb => ?_) (fun hb => ?_)) | (with_reducible refine Br.nsym (fun hb => ?_) (fun hb => ?_)) | (with_reducible refine Br.sym (fun hb => ?_) (fun hb => ?_))) <;> (try (first | exact absurd rfl hb | exact absurd (hb.symm.trans hv) (by decide) | exact absurd (hb.symm.trans hv2) (by decide) | exact absurd (hb.symm.trans hv3) (by decide) | exact absurd hb (List.cons_ne_nil _ _) | exact absurd hb (by decide) | (exfalso; omega))))))
                | (refine AskS.mk ⟨(by decide : (10 : Int) ≠ 0), ?_⟩)
                | (refine ArithS.to ((48 + n % 10 : Nat) : Int) (by rw [Int.natCast_add, Int.ofNat_tmod]; rfl) (wrap64 (by omega)) ?_)
                | (refine ArithS.to ((48 + n % 10 : Nat) : Int) rfl (wrap8 (by omega)) ?_)
                | (refine BytesS.mk ⟨[UInt8.ofNat (48 + n % 10)], ?_, ?_⟩)
                | (refine AskS.mk ⟨?_, ?_⟩)
                | (refine ArithS.to ((n / 10 : Nat) : Int) (Int.ofNat_tdiv n 10).symm (wrap64 (by omega)) ?_)
                | (refine LenS.nil ?_)
                | (refine LenS.map fun hlen => ?_)
                | (refine LenS.int fun hlen => ?_)
                | (refine ArithS.in64 (by omega) ?_)
                | (refine MakeS.nat rfl (by omega) ?_)
                | (refine InS.fill (by omega) ?_)
                | (refine ElemS.fill (by omega) ?_)
                | (refine InS.nat (by omega) ?_)
                | (refine ElemS.the (by assumption) ?_)
                | (refine ElemS.nat (by omega) fun x hx => ?_)
                | (refine ByteS.the (by assumption) ?_)
                | (refine ByteS.nat (by omega) fun x hx => ?_)
                | (refine ElemS.at (by omega) fun i y hi hy => ?_)
                | (refine ByteS.at (by omega) fun i y hi hy => ?_)
                | (refine InS.at (by omega) fun i hi => ?_)
                | (refine AskS.app rfl (by simp only [List.length_map, List.length_append, List.length_cons, List.length_nil]; omega) ?_)
                | (refine draw_k (by decide +kernel) (by decide +kernel) ?_)
                | (refine draw_kb (by decide +kernel) (by decide +kernel) ?_)
                | (refine ret_pick [] rfl rfl rfl ⟨?_, rfl⟩; conv => lhs; whnf)
                | (refine ret_pick [0] rfl rfl rfl ⟨rfl, ?_⟩)
                | (refine he _ _ ?_; clear hn he hr Q') | (refine hn _ ?_; clear hn he hr Q') | (refine hr _ ?_; clear hn he hr Q')))
    · simp [byteE]
      omega
    · simp only [List.length_cons, List.length_nil, maxLen]
      simp only [maxLen] at hmax
      omega
    · have hf : f ≠ 0 := fun e => by
        subst e
        simp at h2
        omega
      obtain ⟨f', rfl⟩ := Nat.exists_eq_succ_of_ne_zero hf
      refine ⟨(f', n / 10, UInt8.ofNat (48 + n % 10) :: l), ⟨?_, ?_, ?_, ?_⟩, ?_, ?_⟩
      · rw [← h1]
        simp only [digs]
        rw [if_neg (by omega)]
      · simp only [Nat.pow_succ] at h2
        show n / 10 < 10 ^ f'
        omega
      · simp only [List.length_cons]
        omega
      · show n / 10 ≤ _
        omega
      · exact Nat.lt_succ_self _
      · exact weak_to rfl rfl rfl ⟨rfl, rfl, trivial⟩
    · simp only [maxLen] at hmax ⊢
      show 1 + l.length ≤ _
      omega
    · have hn0 : n = 0 := by omega
      subst hn0
      have h5 : digs f 0 l = l := by cases f <;> simp [digs]
      rw [h5] at h1
      show D.str (109 :: l) = _
      rw [mtext, if_neg (by omega), h1]
end Go.Eng
