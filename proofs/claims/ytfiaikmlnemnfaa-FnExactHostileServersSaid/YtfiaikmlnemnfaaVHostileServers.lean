/-
  FnExactHostileServers, walked by the symbolic machine: it returns true.
-/
import Derived.Test.YtfiaikmlnemnfaaH1
import Derived.Test.YtfiaikmlnemnfaaH2
import Derived.Test.YtfiaikmlnemnfaaH3
import Derived.Test.YtfiaikmlnemnfaaH4
import Derived.Test.YtfiaikmlnemnfaaH5
import Derived.Test.YtfiaikmlnemnfaaE8
import Derived.Test.YtfiaikmlnemnfaaP1
namespace Go.Proofs.Ytfiaikmlnemnfaa.G
set_option linter.all false
open Go.RowKit L D
set_option maxRecDepth 100000
theorem c_FnExactHostileServers (x0 : Wld) (h_x0 : (wf_Wld) x0) : Sound ty Try.prog 11 [.agg (dec_Wld x0)] [.a (.lit (.bool true))] := by
  refine Sound.of X Try.call11 Try.func11 rfl rfl (by decide) Try.ntmps11 (by simp) ?_
  intro zb
  refine W.seq ?_
  refine W.reg X [] [] [1] [] rfl ⟨⟩ ?_
  refine W.seq ?_
  refine W.reg X [] [] [1, 3] [] rfl ⟨⟩ ?_
  refine W.seq ?_
  refine W.reg X [] [(13, ⟨false, [.a (.lit (.int .i64 (szr (1048576) (size_Wld x0))))]⟩)] [1, 3] [] rfl ⟨c_szWorld x0 (1048576) (by omega) (by omega), ⟨⟩⟩ ?_
  refine W.seq ?_
  refine W.seq ?_
  refine W.reg X [] [] [1, 15] [] rfl ⟨⟩ ?_
  refine W.cond rfl (fun hb0 => ?_) (fun hb0 => ?_)
  · try simp only [decide_eq_true_eq, decide_eq_false_iff_not, Bool.not_eq_true', Bool.not_eq_false', beq_iff_eq, bne_iff_ne, beq_eq_false_iff_ne, bne_eq_false_iff_eq, ne_eq, gt_iff_lt, ge_iff_le, Int.not_lt, Int.not_le, Decidable.not_not, Int.toNat_natCast, Int.ofNat_lt, Int.ofNat_le, Nat.not_lt, Nat.not_le] at hb0
    refine W.seq ?_
    refine W.reg X [] [] [2] [] rfl ⟨⟩ ?_
    refine W.ret ?_
    exact Fin.ret rfl ⟨rfl, ⟨⟩⟩
  · try simp only [decide_eq_true_eq, decide_eq_false_iff_not, Bool.not_eq_true', Bool.not_eq_false', beq_iff_eq, bne_iff_ne, beq_eq_false_iff_ne, bne_eq_false_iff_eq, ne_eq, gt_iff_lt, ge_iff_le, Int.not_lt, Int.not_le, Decidable.not_not, Int.toNat_natCast, Int.ofNat_lt, Int.ofNat_le, Nat.not_lt, Nat.not_le] at hb0
    obtain ⟨e0, e0'⟩ := szr_pos hb0
    rw [e0]
    have hsz : size_Wld x0 ≤ 1048576 := by omega
    have hmx := mnv_le_Wld x0
    have hdev := dev_le hsz
    have hsrv := srv_le hsz
    have hr : mnl (fun _ => 1) (hostile x0.servers) ≤ 1048576 := by rw [mnl_one]; exact Nat.le_trans (by have := hostile_le x0.servers x0.servers.length; rwa [List.take_length] at this) hsrv
    refine W.skip ?_
    refine W.seq ?_
    refine W.reg X [(17, 225), (18, 250)] [(17, ⟨true, [.agg (dec_Wld x0)]⟩), (18, ⟨true, [.a (.sl .int (hostile x0.servers))]⟩)] [1, 4] [] rfl ⟨c_spec_HostileServers x0 hsrv, c_toWorld x0 (by omega), ⟨⟩⟩ ?_
    refine W.seq ?_
    refine W.reg X [(20, 275)] [(20, ⟨true, [.agg (dec_Wld x0)]⟩)] [1, 4, 5] [] rfl ⟨c_toWorld x0 (by omega), ⟨⟩⟩ ?_
    refine W.seq ?_
    refine W.reg X [(22, 300)] [(22, ⟨true, [.a (.sl .int (hostile x0.servers))]⟩)] [1, 4, 5, 6] [] rfl ⟨c_impl_HostileServers x0 hsrv, ⟨⟩⟩ ?_
    refine W.seq ?_
    refine W.seq ?_
    refine W.reg X [] [(25, ⟨false, [.a (.lit (.bool true))]⟩)] [1, 4, 5, 6, 26] [] rfl ⟨c_eqIntS (hostile x0.servers), ⟨⟩⟩ ?_
    refine W.cond rfl (fun hb1 => ?_) (fun hb1 => ?_)
    · exact absurd hb1 (by first | (simp; done) | (simp; omega))
    · clear hb1
      refine W.skip ?_
      refine W.seq ?_
      refine W.seq ?_
      refine W.draw X [(29, 325)] [(29, ⟨true, [.agg (dec_Wld x0)]⟩), (30, ⟨false, [.a (.lit (.bool true))]⟩)] [1, 4, 5, 6, 31] [] 5 MO (by kernel_rfl) rfl ⟨c_eqWorld x0, c_toWorld x0 (by omega), ⟨⟩⟩ ?_
      refine W.cond rfl (fun hb2 => ?_) (fun hb2 => ?_)
      · exact absurd hb2 (by first | (simp; done) | (simp; omega))
      · clear hb2
        refine W.skip ?_
        refine W.seq ?_
        refine W.reg X [] [] [1, 4, 5, 6, 7] [] rfl ⟨⟩ ?_
        refine W.seq ?_
        refine W.reg X [] [(100034, ⟨false, [.a (.lit (.int .i64 (1 + (mnv_Wld x0 : Nat)))), .agg (dec_Wld (mkv_Wld (1) x0)), .a (.lit (.int .i64 (1)))]⟩)] [1, 4, 6, 7] [] rfl ⟨c_markWorld x0 (1) (by omega) (by omega), ⟨⟩⟩ ?_
        refine W.seq ?_
        refine W.seq ?_
        refine W.reg X [] [(40, ⟨false, [.a (.lit (.bool true))]⟩)] [1, 4, 6, 42] [] rfl ⟨fun _ => c_eqIntS (hostile x0.servers), ⟨⟩⟩ ?_
        refine W.cond rfl (fun hb3 => ?_) (fun hb3 => ?_)
        · exact absurd hb3 (by first | (simp; done) | (simp; omega))
        · clear hb3
          refine W.skip ?_
          refine W.seq ?_
          refine W.reg X [] [] [1, 4, 6, 8] [] rfl ⟨⟩ ?_
          refine W.seq ?_
          refine W.reg X [] [(100045, ⟨false, [.a (.lit (.int .i64 (1 + ((mnl (fun _ => 1)) (hostile x0.servers) : Nat)))), .a (.sl .int ((mkl (fun k _ => k) (fun _ => 1)) (1) (hostile x0.servers))), .a (.lit (.int .i64 (1)))]⟩)] [1, 4, 6, 8] [] rfl ⟨c_markIntS (hostile x0.servers) (1) (by omega) (by omega), ⟨⟩⟩ ?_
          refine W.seq ?_
          refine W.reg X [] [] [1, 4, 6, 8, 9] [] rfl ⟨⟩ ?_
          refine W.seq ?_
          refine W.reg X [] [(48, ⟨false, [.a (.lit (.int .i64 (1 + ((mnl (fun _ => 1)) (hostile x0.servers) : Nat))))]⟩)] [1, 4, 6, 8, 9] [] rfl ⟨c_heldIntS (hostile x0.servers) (1) (by omega) (by omega), ⟨⟩⟩ ?_
          refine W.seq ?_
          refine W.seq ?_
          refine W.reg X [] [] [1, 4, 6, 8, 9, 50] [] rfl ⟨⟩ ?_
          refine W.cond rfl (fun hb4 => ?_) (fun hb4 => ?_)
          · exact absurd hb4 (by first | (simp; done) | (simp; omega))
          · clear hb4
            refine W.skip ?_
            refine W.seq ?_
            refine W.seq ?_
            refine W.reg X [] [] [1, 4, 6, 8, 53] [] rfl ⟨⟩ ?_
            refine W.cond rfl (fun hb5 => ?_) (fun hb5 => ?_)
            · exact absurd hb5 (by first | (simp; done) | (simp; omega))
            · clear hb5
              refine W.skip ?_
              refine W.seq ?_
              refine W.reg X [(55, 350), (56, 375)] [(55, ⟨true, [.agg (dec_Wld x0)]⟩), (56, ⟨true, [.a (.sl .int (hostile x0.servers))]⟩)] [4, 6, 8, 10] [] rfl ⟨c_impl_HostileServers x0 hsrv, c_toWorld x0 (by omega), ⟨⟩⟩ ?_
              refine W.seq ?_
              refine W.seq ?_
              refine W.reg X [] [(59, ⟨false, [.a (.lit (.bool true))]⟩)] [6, 8, 60] [] rfl ⟨c_eqIntS (hostile x0.servers), ⟨⟩⟩ ?_
              refine W.cond rfl (fun hb6 => ?_) (fun hb6 => ?_)
              · exact absurd hb6 (by first | (simp; done) | (simp; omega))
              · clear hb6
                refine W.skip ?_
                refine W.seq ?_
                refine W.reg X [] [] [6, 8, 9] [] rfl ⟨⟩ ?_
                refine W.seq ?_
                refine W.reg X [] [(63, ⟨false, [.a (.lit (.int .i64 (1 + ((mnl (fun _ => 1)) (hostile x0.servers) : Nat))))]⟩)] [8, 9] [] rfl ⟨c_heldIntS (hostile x0.servers) (1) (by omega) (by omega), ⟨⟩⟩ ?_
                refine W.seq ?_
                refine W.seq ?_
                refine W.reg X [] [] [8, 9, 65] [] rfl ⟨⟩ ?_
                refine W.cond rfl (fun hb7 => ?_) (fun hb7 => ?_)
                · exact absurd hb7 (by first | (simp; done) | (simp; omega))
                · clear hb7
                  refine W.skip ?_
                  refine W.seq ?_
                  refine W.seq ?_
                  refine W.reg X [] [] [68] [] rfl ⟨⟩ ?_
                  refine W.cond rfl (fun hb8 => ?_) (fun hb8 => ?_)
                  · exact absurd hb8 (by first | (simp; done) | (simp; omega))
                  · clear hb8
                    refine W.skip ?_
                    refine W.seq ?_
                    refine W.reg X [] [] [2] [] rfl ⟨⟩ ?_
                    refine W.ret ?_
                    exact Fin.ret rfl ⟨rfl, ⟨⟩⟩
end Go.Proofs.Ytfiaikmlnemnfaa.G
