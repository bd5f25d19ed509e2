/-
  FnExactSubmittedBodies, walked by the symbolic machine: it returns true.
-/
import Derived.Test.YthlflnplnajjiaaH1
import Derived.Test.YthlflnplnajjiaaH2
import Derived.Test.YthlflnplnajjiaaH3
import Derived.Test.YthlflnplnajjiaaH4
import Derived.Test.YthlflnplnajjiaaH5
import Derived.Test.YthlflnplnajjiaaP2
namespace Go.Proofs.Ythlflnplnajjiaa.G
set_option linter.all false
open Go.RowKit L D
set_option maxRecDepth 100000
theorem c_FnExactSubmittedBodies (x0 : (List Ev)) (h_x0 : (fun l => ∀ x, x ∈ l → (wf_Ev) x) x0) (x1 : Int) (i_x1 : I64 x1) : Sound ty Try.prog 8 [.a (.sl .Ev x0), .a (.lit (.int .i64 x1))] [.a (.lit (.bool true))] := by
  refine Sound.of X Try.call8 Try.func8 rfl rfl (by decide) Try.ntmps8 (by simp) ?_
  intro zb
  refine W.seq ?_
  refine W.reg X [] [] [0, 1] [] rfl ⟨⟩ ?_
  refine W.seq ?_
  refine W.reg X [] [] [0, 1, 5] [] rfl ⟨⟩ ?_
  refine W.seq ?_
  refine W.reg X [] [(15, ⟨false, [.a (.lit (.int .i64 (szr (1048576) ((lsz size_Ev) x0))))]⟩)] [0, 1, 5] [] rfl ⟨c_szEventS x0 (1048576) (by omega) (by omega), ⟨⟩⟩ ?_
  refine W.seq ?_
  refine W.seq ?_
  refine W.reg X [] [] [0, 1, 17] [] rfl ⟨⟩ ?_
  refine W.cond rfl (fun hb0 => ?_) (fun hb0 => ?_)
  · try simp only [decide_eq_true_eq, decide_eq_false_iff_not, Bool.not_eq_true', Bool.not_eq_false', beq_iff_eq, bne_iff_ne, beq_eq_false_iff_ne, bne_eq_false_iff_eq, ne_eq, gt_iff_lt, ge_iff_le, Int.not_lt, Int.not_le, Decidable.not_not, Int.toNat_natCast, Int.ofNat_lt, Int.ofNat_le, Nat.not_lt, Nat.not_le, Bool.if_false_right, Bool.if_true_left, Bool.if_false_left, Bool.if_true_right, Bool.and_eq_true, Bool.or_eq_true, Bool.and_eq_false_iff, Bool.or_eq_false_iff, Bool.decide_eq_true] at hb0
    refine W.seq ?_
    refine W.reg X [] [] [4] [] rfl ⟨⟩ ?_
    refine W.ret ?_
    exact Fin.ret rfl ⟨rfl, ⟨⟩⟩
  · try simp only [decide_eq_true_eq, decide_eq_false_iff_not, Bool.not_eq_true', Bool.not_eq_false', beq_iff_eq, bne_iff_ne, beq_eq_false_iff_ne, bne_eq_false_iff_eq, ne_eq, gt_iff_lt, ge_iff_le, Int.not_lt, Int.not_le, Decidable.not_not, Int.toNat_natCast, Int.ofNat_lt, Int.ofNat_le, Nat.not_lt, Nat.not_le, Bool.if_false_right, Bool.if_true_left, Bool.if_false_left, Bool.if_true_right, Bool.and_eq_true, Bool.or_eq_true, Bool.and_eq_false_iff, Bool.or_eq_false_iff, Bool.decide_eq_true] at hb0
    obtain ⟨e0, e0'⟩ := szr_pos hb0
    rw [e0]
    have hsz : lsz size_Ev x0 ≤ 1048576 := by omega
    have hmx : mnl mne_Ev x0 ≤ 32 * lsz size_Ev x0 := mnl_lsz mne_le_Ev x0
    have hr : mnl (mnl (fun _ => 1)) (subm x1 x0) ≤ 32 * lsz List.length (subm x1 x0) := mnl_lsz (fun e => by have := mnl_len e; omega) _
    have hr2 := subm_size x1 x0
    refine W.skip ?_
    refine W.seq ?_
    refine W.reg X [(19, 225), (21, 250)] [(19, ⟨true, [.a (.sl .Ev x0)]⟩), (21, ⟨true, [.a (.sl (.sl .u8) (subm x1 x0))]⟩)] [0, 1, 6] [] rfl ⟨c_spec_SubmittedBodies x0 x1 (by omega), c_toEventS x0 (by omega), ⟨⟩⟩ ?_
    refine W.seq ?_
    refine W.reg X [(23, 275)] [(23, ⟨true, [.a (.sl .Ev x0)]⟩)] [0, 1, 6, 7] [] rfl ⟨c_toEventS x0 (by omega), ⟨⟩⟩ ?_
    refine W.seq ?_
    refine W.reg X [(26, 300)] [(26, ⟨true, [.a (.sl (.sl .u8) (subm x1 x0))]⟩)] [0, 1, 6, 7, 8] [] rfl ⟨c_impl_SubmittedBodies x0 x1 (by omega), ⟨⟩⟩ ?_
    refine W.seq ?_
    refine W.seq ?_
    refine W.reg X [] [(29, ⟨false, [.a (.lit (.bool true))]⟩)] [0, 1, 6, 7, 8, 30] [] rfl ⟨c_eqByteSS (subm x1 x0), ⟨⟩⟩ ?_
    refine W.cond rfl (fun hb1 => ?_) (fun hb1 => ?_)
    · exact absurd hb1 (by first | (simp; done) | (simp; omega))
    · clear hb1
      refine W.skip ?_
      refine W.seq ?_
      refine W.seq ?_
      refine W.reg X [(33, 325)] [(33, ⟨true, [.a (.sl .Ev x0)]⟩), (34, ⟨false, [.a (.lit (.bool true))]⟩)] [0, 1, 6, 7, 8, 35] [] rfl ⟨c_eqEventS x0, c_toEventS x0 (by omega), ⟨⟩⟩ ?_
      refine W.cond rfl (fun hb2 => ?_) (fun hb2 => ?_)
      · exact absurd hb2 (by first | (simp; done) | (simp; omega))
      · clear hb2
        refine W.skip ?_
        refine W.seq ?_
        refine W.reg X [] [] [0, 1, 6, 7, 8, 9] [] rfl ⟨⟩ ?_
        refine W.seq ?_
        refine W.reg X [] [(100038, ⟨false, [.a (.lit (.int .i64 (1 + ((mnl mne_Ev) x0 : Nat)))), .a (.sl .Ev ((mkl mke_Ev mne_Ev) (1) x0)), .a (.lit (.int .i64 (1)))]⟩)] [0, 1, 6, 8, 9] [] rfl ⟨c_markEventS x0 (1) (by omega) (by omega), ⟨⟩⟩ ?_
        refine W.seq ?_
        refine W.seq ?_
        refine W.reg X [] [(44, ⟨false, [.a (.lit (.bool true))]⟩)] [0, 1, 6, 8, 46] [] rfl ⟨fun _ => c_eqByteSS (subm x1 x0), ⟨⟩⟩ ?_
        refine W.cond rfl (fun hb3 => ?_) (fun hb3 => ?_)
        · exact absurd hb3 (by first | (simp; done) | (simp; omega))
        · clear hb3
          refine W.skip ?_
          refine W.seq ?_
          refine W.reg X [] [] [0, 1, 6, 8, 10] [] rfl ⟨⟩ ?_
          refine W.seq ?_
          refine W.reg X [] [(100049, ⟨false, [.a (.lit (.int .i64 (1 + ((mnl (mnl (fun _ => 1))) (subm x1 x0) : Nat)))), .a (.sl (.sl .u8) ((mkl (mkl mku8 (fun _ => 1)) (mnl (fun _ => 1))) (1) (subm x1 x0))), .a (.lit (.int .i64 (1)))]⟩)] [0, 1, 6, 8, 10] [] rfl ⟨c_markByteSS (subm x1 x0) (1) (by omega) (by omega), ⟨⟩⟩ ?_
          refine W.seq ?_
          refine W.reg X [] [] [0, 1, 6, 8, 10, 11] [] rfl ⟨⟩ ?_
          refine W.seq ?_
          refine W.reg X [] [(52, ⟨false, [.a (.lit (.int .i64 (1 + ((mnl (mnl (fun _ => 1))) (subm x1 x0) : Nat))))]⟩)] [0, 1, 6, 8, 10, 11] [] rfl ⟨c_heldByteSS (subm x1 x0) (1) (by omega) (by omega), ⟨⟩⟩ ?_
          refine W.seq ?_
          refine W.seq ?_
          refine W.reg X [] [] [0, 1, 6, 8, 10, 11, 54] [] rfl ⟨⟩ ?_
          refine W.cond rfl (fun hb4 => ?_) (fun hb4 => ?_)
          · exact absurd hb4 (by first | (simp; done) | (simp; omega))
          · clear hb4
            refine W.skip ?_
            refine W.seq ?_
            refine W.seq ?_
            refine W.reg X [] [] [0, 1, 6, 8, 10, 57] [] rfl ⟨⟩ ?_
            refine W.cond rfl (fun hb5 => ?_) (fun hb5 => ?_)
            · exact absurd hb5 (by first | (simp; done) | (simp; omega))
            · clear hb5
              refine W.skip ?_
              refine W.seq ?_
              refine W.reg X [(59, 350), (61, 375)] [(59, ⟨true, [.a (.sl .Ev x0)]⟩), (61, ⟨true, [.a (.sl (.sl .u8) (subm x1 x0))]⟩)] [6, 8, 10, 12] [] rfl ⟨c_impl_SubmittedBodies x0 x1 (by omega), c_toEventS x0 (by omega), ⟨⟩⟩ ?_
              refine W.seq ?_
              refine W.seq ?_
              refine W.reg X [] [(64, ⟨false, [.a (.lit (.bool true))]⟩)] [8, 10, 65] [] rfl ⟨c_eqByteSS (subm x1 x0), ⟨⟩⟩ ?_
              refine W.cond rfl (fun hb6 => ?_) (fun hb6 => ?_)
              · exact absurd hb6 (by first | (simp; done) | (simp; omega))
              · clear hb6
                refine W.skip ?_
                refine W.seq ?_
                refine W.reg X [] [] [8, 10, 11] [] rfl ⟨⟩ ?_
                refine W.seq ?_
                refine W.reg X [] [(68, ⟨false, [.a (.lit (.int .i64 (1 + ((mnl (mnl (fun _ => 1))) (subm x1 x0) : Nat))))]⟩)] [10, 11] [] rfl ⟨c_heldByteSS (subm x1 x0) (1) (by omega) (by omega), ⟨⟩⟩ ?_
                refine W.seq ?_
                refine W.seq ?_
                refine W.reg X [] [] [10, 11, 70] [] rfl ⟨⟩ ?_
                refine W.cond rfl (fun hb7 => ?_) (fun hb7 => ?_)
                · exact absurd hb7 (by first | (simp; done) | (simp; omega))
                · clear hb7
                  refine W.skip ?_
                  refine W.seq ?_
                  refine W.seq ?_
                  refine W.reg X [] [] [73] [] rfl ⟨⟩ ?_
                  refine W.cond rfl (fun hb8 => ?_) (fun hb8 => ?_)
                  · exact absurd hb8 (by first | (simp; done) | (simp; omega))
                  · clear hb8
                    refine W.skip ?_
                    refine W.seq ?_
                    refine W.reg X [] [] [4] [] rfl ⟨⟩ ?_
                    refine W.ret ?_
                    exact Fin.ret rfl ⟨rfl, ⟨⟩⟩
end Go.Proofs.Ythlflnplnajjiaa.G
