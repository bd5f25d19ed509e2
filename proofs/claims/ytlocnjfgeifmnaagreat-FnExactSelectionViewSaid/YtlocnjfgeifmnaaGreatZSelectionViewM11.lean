/-
  FnExactSelectionView, walked by the symbolic machine: it returns true.
-/
import Derived.Test.YtlocnjfgeifmnaaGreatZSelectionViewM10
import Derived.Test.YtlocnjfgeifmnaaGreatZSelectionViewM9
import Derived.Test.YtlocnjfgeifmnaaGreatZSelectionViewM7
import Derived.Test.YtlocnjfgeifmnaaGreatZSelectionViewM8
namespace Go.Proofs.YtlocnjfgeifmnaaGreat.G
set_option linter.all false
open Go.RowKit L D
set_option maxRecDepth 100000
theorem c_impl_IsValidWorld (x : Wld) : Sound ty Tryz.prog 66 [.agg (dec_Wld x)] [.a (.lit (.bool (okW x)))] := by
  refine Sound.of X Tryz.call66 Tryz.func66 rfl rfl (by decide) Tryz.ntmps66 (by simp) ?_
  intro zb
  refine W.boundA 0 1 rfl rfl (fun hl1 => ?_)
  refine W.boundA 0 2 rfl rfl (fun hl2 => ?_)
  refine W.seq ?_
  refine W.reg X [] [] [1] [] rfl ⟨⟩ ?_
  refine W.seq ?_
  refine W.seq ?_
  refine W.draw X [] [(10, ⟨false, [.a (.lit (.bool (inr x.rows 1 64)))]⟩), (16, ⟨false, [.a (.lit (.bool (srvCnt (x.servers.length : Int))))]⟩), (23, ⟨false, [.a (.lit (.bool (inr (x.devices.length : Int) 2 8)))]⟩), (36, ⟨false, [.a (.lit (.bool (okArc x.archive)))]⟩), (50, ⟨false, [.a (.lit (.int .i64 (lastR x.archive)))]⟩), (58, ⟨false, [.a (.lit (.bool (okKey x.master)))]⟩), (64, ⟨false, [.a (.lit (.bool (inr x.round 0 100000)))]⟩)] [1, 71] [] 64 MO (by kernel_rfl) rfl (by (repeat' (first | with_reducible exact AllP.nil | with_reducible refine AllP.mk ?_ ?_ | with_reducible apply And.intro)) <;> skip; (iterate 7 (all_goals try (first | exact (c_impl_InRange x.rows 1 64) | exact fun _ => (c_impl_InRange x.rows 1 64) | exact fun _ _ => (c_impl_InRange x.rows 1 64) | exact (c_impl_isServerCount (x.servers.length : Int)) | exact fun _ => (c_impl_isServerCount (x.servers.length : Int)) | exact fun _ _ => (c_impl_isServerCount (x.servers.length : Int)) | exact (c_impl_InRange (x.devices.length : Int) 2 8) | exact fun _ => (c_impl_InRange (x.devices.length : Int) 2 8) | exact fun _ _ => (c_impl_InRange (x.devices.length : Int) 2 8) | exact (c_impl_IsValidArchive x.archive) | exact fun _ => (c_impl_IsValidArchive x.archive) | exact fun _ _ => (c_impl_IsValidArchive x.archive) | exact (c_impl_LastRound x.archive) | exact fun _ => (c_impl_LastRound x.archive) | exact fun _ _ => (c_impl_LastRound x.archive) | exact (c_impl_IsValidKey x.master) | exact fun _ => (c_impl_IsValidKey x.master) | exact fun _ _ => (c_impl_IsValidKey x.master) | exact (c_impl_InRange x.round 0 100000) | exact fun _ => (c_impl_InRange x.round 0 100000) | exact fun _ _ => (c_impl_InRange x.round 0 100000)))); all_goals (first | (intros; omega) | exact rfl | exact El_all _ (by decide) | exact ⟨rfl, El_all _ (by decide)⟩ | ((intro h1; first | (intro h2; first | (intro h3; refine And.intro ?_ ?_) | refine And.intro ?_ ?_) | refine And.intro ?_ ?_) <;> first | omega | ((try simp only [nb, inr_t, inr_f] at *); (try simp (disch := omega) only [i64w]); omega)) | ((try simp only [nb, inr_t, inr_f] at *); (simp (disch := omega) only [i64w]); omega) | (refine fun _ => ?_; dsimp only [hyps, imps]; omega) | (refine fun _ _ => ?_; dsimp only [hyps, imps]; omega) | exact (u8w _).1 | exact (u8w _).2 | exact (u8n _).1 | exact (u8n _).2 | (simp only [byt, maxLen, lens]; omega) | (intros; simp only [nb] at *; omega))) ?_
  refine W.cond rfl (fun hb0 => ?_) (fun hb0 => ?_)
  · skip
    refine W.seq ?_
    refine W.reg X [] [] [2] [] rfl ⟨⟩ ?_
    refine W.ret ?_
    exact Fin.ret rfl ⟨by rw [show okW x = false from by rw [okW, or_no1 (R := hdW x) hb0 (by simp only [hdW, ite_tt, ite_ff, gt_iff_lt, ge_iff_le, not_dlt, not_dle, bne_not, deq, decide_not, ne_eq, Bool.not_and, Bool.not_or, Bool.not_not, Bool.and_true, Bool.true_and, Bool.or_false, Bool.false_or, Int.toNat_natCast] <;> first | rfl | ac_rfl)]; rfl], ⟨⟩⟩
  · have hh : hdW x = true := or_yes hb0 (by simp only [hdW, ite_tt, ite_ff, gt_iff_lt, ge_iff_le, not_dlt, not_dle, bne_not, deq, decide_not, ne_eq, Bool.not_and, Bool.not_or, Bool.not_not, Bool.and_true, Bool.true_and, Bool.or_false, Bool.false_or, Int.toNat_natCast] <;> first | rfl | ac_rfl)
    obtain ⟨hev, hd8, _⟩ := hdW_dev hh
    refine W.skip ?_
    refine W.seq ?_
    refine W.seq ?_
    refine W.reg X [] [] [1, 73, 74, 75] [] rfl ⟨⟩ ?_
    refine W.block ?_
    refine W.loopO (fun k => k ≤ x.servers.length ∧ (List.range k).all (okS x) = true) (fun k : Nat => [(75, .one (.a (.lit (.int .i64 k))))]) (fun k => []) (fun k => x.servers.length - k) 0 (fun k => rfl) ⟨Nat.zero_le _, rfl⟩ rfl ?_
    rintro k ⟨hk, hall⟩
    refine W.seq ?_
    refine W.reg X [] [] [1, 73, 74, 75, 76] [] rfl ⟨⟩ ?_
    refine W.seq ?_
    refine W.cond rfl (fun hb1 => ?_) (fun hb1 => ?_)
    · try simp only [nb, inr_t, inr_f, isEmpty_t] at hb1
      refine W.skip ?_
      refine W.seq ?_
      refine W.block ?_
      refine W.seq ?_
      refine W.reg X [] [] [1, 3, 4, 73, 74, 75] [] rfl (by (repeat' (first | exact True.intro | apply And.intro)) <;> first | (intros; omega) | exact rfl | exact El_all _ (by decide) | exact ⟨rfl, El_all _ (by decide)⟩ | ((intro h1; first | (intro h2; first | (intro h3; refine And.intro ?_ ?_) | refine And.intro ?_ ?_) | refine And.intro ?_ ?_) <;> first | omega | ((try simp only [nb, inr_t, inr_f] at *); (try simp (disch := omega) only [i64w]); omega)) | ((try simp only [nb, inr_t, inr_f] at *); (simp (disch := omega) only [i64w]); omega) | (refine fun _ => ?_; dsimp only [hyps, imps]; omega) | (refine fun _ _ => ?_; dsimp only [hyps, imps]; omega) | exact (u8w _).1 | exact (u8w _).2 | exact (u8n _).1 | exact (u8n _).2 | (simp only [byt, maxLen, lens]; omega) | (intros; simp only [nb] at *; omega)) ?_
      refine W.seq ?_
      refine W.reg X [] [(81, ⟨false, [.a (.lit (.bool (okSrv (x.servers.getD k (dfl .Srv)))))]⟩)] [1, 73, 74, 75, 108] [] rfl (by (repeat' (first | with_reducible exact AllP.nil | with_reducible refine AllP.mk ?_ ?_ | with_reducible apply And.intro)) <;> skip; (iterate 1 (all_goals try (first | exact (c_impl_IsValidServer (x.servers.getD k (dfl .Srv))) | exact fun _ => (c_impl_IsValidServer (x.servers.getD k (dfl .Srv))) | exact fun _ _ => (c_impl_IsValidServer (x.servers.getD k (dfl .Srv)))))); all_goals (first | (intros; omega) | exact rfl | exact El_all _ (by decide) | exact ⟨rfl, El_all _ (by decide)⟩ | ((intro h1; first | (intro h2; first | (intro h3; refine And.intro ?_ ?_) | refine And.intro ?_ ?_) | refine And.intro ?_ ?_) <;> first | omega | ((try simp only [nb, inr_t, inr_f] at *); (try simp (disch := omega) only [i64w]); omega)) | ((try simp only [nb, inr_t, inr_f] at *); (simp (disch := omega) only [i64w]); omega) | (refine fun _ => ?_; dsimp only [hyps, imps]; omega) | (refine fun _ _ => ?_; dsimp only [hyps, imps]; omega) | exact (u8w _).1 | exact (u8w _).2 | exact (u8n _).1 | exact (u8n _).2 | (simp only [byt, maxLen, lens]; omega) | (intros; simp only [nb] at *; omega))) ?_
      refine W.cond rfl (fun hb2 => ?_) (fun hb2 => ?_)
      · have hk2 : okS x k = false := or_no1 hb2 (by simp only [okS, ite_tt, ite_ff, gt_iff_lt, ge_iff_le, not_dlt, not_dle, bne_not, deq, decide_not, ne_eq, Bool.not_and, Bool.not_or, Bool.not_not, Bool.and_true, Bool.true_and, Bool.or_false, Bool.false_or, Int.toNat_natCast] <;> first | rfl | ac_rfl)
        refine W.seq ?_
        refine W.reg X [] [] [2] [] rfl ⟨⟩ ?_
        refine W.ret ?_
        exact Fin.ret rfl ⟨by rw [show okW x = false from by rw [okW, range_no hb1 hk2]; simp], ⟨⟩⟩
      · have hk2 : okS x k = true := or_yes hb2 (by simp only [okS, ite_tt, ite_ff, gt_iff_lt, ge_iff_le, not_dlt, not_dle, bne_not, deq, decide_not, ne_eq, Bool.not_and, Bool.not_or, Bool.not_not, Bool.and_true, Bool.true_and, Bool.or_false, Bool.false_or, Int.toNat_natCast] <;> first | rfl | ac_rfl)
        refine W.skip ?_
        refine W.reg X [] [] [1, 73, 74, 75] [] rfl ⟨⟩ ?_
        refine ⟨k + 1, ⟨by omega, range_all hall hk2⟩, by omega, ?_⟩
        rw [wadd _ k rfl (by omega)]
        try rfl
    · try simp only [nb, inr_t, inr_f, isEmpty_t] at hb1
      have hall2 : (List.range x.servers.length).all (okS x) = true := by rw [show x.servers.length = k by omega]; exact hall
      refine W.exit ?_
      refine W.seq ?_
      refine W.seq ?_
      refine W.reg X [] [] [1, 111, 112, 113] [] rfl ⟨⟩ ?_
      refine W.block ?_
      refine W.loopO (fun k1 => k1 ≤ x.devices.length ∧ (List.range k1).all (okD x) = true) (fun k1 : Nat => [(113, .one (.a (.lit (.int .i64 k1))))]) (fun k1 => []) (fun k1 => x.devices.length - k1) 0 (fun k1 => rfl) ⟨Nat.zero_le _, rfl⟩ rfl ?_
      rintro k1 ⟨hk1, hall1⟩
      refine W.seq ?_
      refine W.reg X [] [] [1, 111, 112, 113, 114] [] rfl ⟨⟩ ?_
      refine W.seq ?_
      refine W.cond rfl (fun hb3 => ?_) (fun hb3 => ?_)
      · try simp only [nb, inr_t, inr_f, isEmpty_t] at hb3
        have hx := xorN k1 (by omega)
        have hlt := xor_lt k1 x.devices.length hb3 hev
        refine W.skip ?_
        refine W.seq ?_
        refine W.block ?_
        refine W.seq ?_
        refine W.reg X [] [] [1, 5, 6, 111, 112, 113] [] rfl (by (repeat' (first | exact True.intro | apply And.intro)) <;> first | (intros; omega) | exact rfl | exact El_all _ (by decide) | exact ⟨rfl, El_all _ (by decide)⟩ | ((intro h1; first | (intro h2; first | (intro h3; refine And.intro ?_ ?_) | refine And.intro ?_ ?_) | refine And.intro ?_ ?_) <;> first | omega | ((try simp only [nb, inr_t, inr_f] at *); (try simp (disch := omega) only [i64w]); omega)) | ((try simp only [nb, inr_t, inr_f] at *); (simp (disch := omega) only [i64w]); omega) | (refine fun _ => ?_; dsimp only [hyps, imps]; omega) | (refine fun _ _ => ?_; dsimp only [hyps, imps]; omega) | exact (u8w _).1 | exact (u8w _).2 | exact (u8n _).1 | exact (u8n _).2 | (simp only [byt, maxLen, lens]; omega) | (intros; simp only [nb] at *; omega)) ?_
        refine W.seq ?_
        refine W.reg X [] [] [1, 5, 6, 7, 111, 112, 113] [] rfl ⟨⟩ ?_
        refine W.seq ?_
        refine W.draw X [] [(121, ⟨false, [.a (.lit (.bool (okDev (x.devices.getD k1 (dfl .Dev)))))]⟩)] [1, 111, 112, 113, 155] [] 36 MO (by kernel_rfl) rfl (by (repeat' (first | with_reducible exact AllP.nil | with_reducible refine AllP.mk ?_ ?_ | with_reducible apply And.intro)) <;> skip; (iterate 1 (all_goals try (first | exact (c_impl_IsValidDevice (x.devices.getD k1 (dfl .Dev))) | exact fun _ => (c_impl_IsValidDevice (x.devices.getD k1 (dfl .Dev))) | exact fun _ _ => (c_impl_IsValidDevice (x.devices.getD k1 (dfl .Dev)))))); all_goals (first | (intros; omega) | exact rfl | exact El_all _ (by decide) | exact ⟨rfl, El_all _ (by decide)⟩ | ((intro h1; first | (intro h2; first | (intro h3; refine And.intro ?_ ?_) | refine And.intro ?_ ?_) | refine And.intro ?_ ?_) <;> first | omega | ((try simp only [nb, inr_t, inr_f] at *); (try simp (disch := omega) only [i64w]); omega)) | ((try simp only [nb, inr_t, inr_f] at *); (simp (disch := omega) only [i64w]); omega) | (refine fun _ => ?_; dsimp only [hyps, imps]; omega) | (refine fun _ _ => ?_; dsimp only [hyps, imps]; omega) | exact (u8w _).1 | exact (u8w _).2 | exact (u8n _).1 | exact (u8n _).2 | (simp only [byt, maxLen, lens]; omega) | (intros; simp only [nb] at *; omega))) ?_
        refine W.cond rfl (fun hb4 => ?_) (fun hb4 => ?_)
        · have hk3 : okD x k1 = false := or_no1 hb4 (by simp only [okD, hx, ite_tt, ite_ff, gt_iff_lt, ge_iff_le, not_dlt, not_dle, bne_not, deq, decide_not, ne_eq, Bool.not_and, Bool.not_or, Bool.not_not, Bool.and_true, Bool.true_and, Bool.or_false, Bool.false_or, Int.toNat_natCast] <;> first | rfl | ac_rfl)
          refine W.seq ?_
          refine W.reg X [] [] [2] [] rfl ⟨⟩ ?_
          refine W.ret ?_
          exact Fin.ret rfl ⟨by rw [show okW x = false from by rw [okW, range_no hb3 hk3]; simp], ⟨⟩⟩
        · have hk3 : okD x k1 = true := or_yes hb4 (by simp only [okD, hx, ite_tt, ite_ff, gt_iff_lt, ge_iff_le, not_dlt, not_dle, bne_not, deq, decide_not, ne_eq, Bool.not_and, Bool.not_or, Bool.not_not, Bool.and_true, Bool.true_and, Bool.or_false, Bool.false_or, Int.toNat_natCast] <;> first | rfl | ac_rfl)
          refine W.skip ?_
          refine W.reg X [] [] [1, 111, 112, 113] [] rfl ⟨⟩ ?_
          refine ⟨k1 + 1, ⟨by omega, range_all hall1 hk3⟩, by omega, ?_⟩
          rw [wadd _ k1 rfl (by omega)]
          try rfl
      · try simp only [nb, inr_t, inr_f, isEmpty_t] at hb3
        have hall3 : (List.range x.devices.length).all (okD x) = true := by rw [show x.devices.length = k1 by omega]; exact hall1
        refine W.exit ?_
        refine W.seq ?_
        refine W.reg X [] [] [2] [] rfl ⟨⟩ ?_
        refine W.ret ?_
        exact Fin.ret rfl ⟨by rw [okW, hh, hall2, hall3]; rfl, ⟨⟩⟩
theorem c_spec_l32Servers (x : Wld) : Sound ty Tryz.prog 119 [.agg (dec_Wld x)] [.a (.lit (.bool (svW x)))] := by
  refine Sound.of X Tryz.call119 Tryz.func119 rfl rfl (by decide) Tryz.ntmps119 (by simp) ?_
  intro zb
  refine W.boundA 0 1 rfl rfl (fun hl1 => ?_)
  refine W.boundA 0 2 rfl rfl (fun hl2 => ?_)
  refine W.seq ?_
  refine W.reg X [] [] [1] [] rfl ⟨⟩ ?_
  refine W.seq ?_
  refine W.seq ?_
  refine W.reg X [] [] [1, 3] [] rfl ⟨⟩ ?_
  refine W.block ?_
  refine W.loopO (fun k => k ≤ x.servers.length ∧ (List.range k).all (okS x) = true) (fun k : Nat => [(3, .one (.a (.lit (.int .i64 k))))]) (fun k => []) (fun k => x.servers.length - k) 0 (fun k => rfl) ⟨Nat.zero_le _, rfl⟩ rfl ?_
  rintro k ⟨hk, hall⟩
  refine W.seq ?_
  refine W.seq ?_
  refine W.reg X [] [] [1, 3, 9] [] rfl ⟨⟩ ?_
  refine W.cond rfl (fun hb0 => ?_) (fun hb0 => ?_)
  · try simp only [nb, inr_t, inr_f, isEmpty_t] at hb0
    refine W.skip ?_
    refine W.seq ?_
    refine W.block ?_
    refine W.seq ?_
    refine W.reg X [] [] [1, 3, 4] [] rfl (by (repeat' (first | exact True.intro | apply And.intro)) <;> first | (intros; omega) | exact rfl | exact El_all _ (by decide) | exact ⟨rfl, El_all _ (by decide)⟩ | ((intro h1; first | (intro h2; first | (intro h3; refine And.intro ?_ ?_) | refine And.intro ?_ ?_) | refine And.intro ?_ ?_) <;> first | omega | ((try simp only [nb, inr_t, inr_f] at *); (try simp (disch := omega) only [i64w]); omega)) | ((try simp only [nb, inr_t, inr_f] at *); (simp (disch := omega) only [i64w]); omega) | (refine fun _ => ?_; dsimp only [hyps, imps]; omega) | (refine fun _ _ => ?_; dsimp only [hyps, imps]; omega) | exact (u8w _).1 | exact (u8w _).2 | exact (u8n _).1 | exact (u8n _).2 | (simp only [byt, maxLen, lens]; omega) | (intros; simp only [nb] at *; omega)) ?_
    refine W.seq ?_
    refine W.reg X [] [(18, ⟨false, [.a (.lit (.bool (okSrv (x.servers.getD k (dfl .Srv)))))]⟩)] [1, 3, 45] [] rfl (by (repeat' (first | with_reducible exact AllP.nil | with_reducible refine AllP.mk ?_ ?_ | with_reducible apply And.intro)) <;> skip; (iterate 1 (all_goals try (first | exact (c_spec_IsValidServer (x.servers.getD k (dfl .Srv))) | exact fun _ => (c_spec_IsValidServer (x.servers.getD k (dfl .Srv))) | exact fun _ _ => (c_spec_IsValidServer (x.servers.getD k (dfl .Srv)))))); all_goals (first | (intros; omega) | exact rfl | exact El_all _ (by decide) | exact ⟨rfl, El_all _ (by decide)⟩ | ((intro h1; first | (intro h2; first | (intro h3; refine And.intro ?_ ?_) | refine And.intro ?_ ?_) | refine And.intro ?_ ?_) <;> first | omega | ((try simp only [nb, inr_t, inr_f] at *); (try simp (disch := omega) only [i64w]); omega)) | ((try simp only [nb, inr_t, inr_f] at *); (simp (disch := omega) only [i64w]); omega) | (refine fun _ => ?_; dsimp only [hyps, imps]; omega) | (refine fun _ _ => ?_; dsimp only [hyps, imps]; omega) | exact (u8w _).1 | exact (u8w _).2 | exact (u8n _).1 | exact (u8n _).2 | (simp only [byt, maxLen, lens]; omega) | (intros; simp only [nb] at *; omega))) ?_
    refine W.cond rfl (fun hb1 => ?_) (fun hb1 => ?_)
    · have hk2 : okS x k = false := or_no1 hb1 (by simp only [okS, ite_tt, ite_ff, gt_iff_lt, ge_iff_le, not_dlt, not_dle, bne_not, deq, decide_not, ne_eq, Bool.not_and, Bool.not_or, Bool.not_not, Bool.and_true, Bool.true_and, Bool.or_false, Bool.false_or, Int.toNat_natCast] <;> first | rfl | ac_rfl)
      refine W.seq ?_
      refine W.reg X [] [] [2] [] rfl ⟨⟩ ?_
      refine W.ret ?_
      exact Fin.ret rfl ⟨by rw [show svW x = false from by rw [svW, range_no hb0 hk2]; simp], ⟨⟩⟩
    · have hk2 : okS x k = true := or_yes hb1 (by simp only [okS, ite_tt, ite_ff, gt_iff_lt, ge_iff_le, not_dlt, not_dle, bne_not, deq, decide_not, ne_eq, Bool.not_and, Bool.not_or, Bool.not_not, Bool.and_true, Bool.true_and, Bool.or_false, Bool.false_or, Int.toNat_natCast] <;> first | rfl | ac_rfl)
      refine W.skip ?_
      refine W.reg X [] [] [1, 3] [] rfl ⟨⟩ ?_
      refine ⟨k + 1, ⟨by omega, range_all hall hk2⟩, by omega, ?_⟩
      rw [wadd _ k rfl (by omega)]
      try rfl
  · try simp only [nb, inr_t, inr_f, isEmpty_t] at hb0
    have hall2 : (List.range x.servers.length).all (okS x) = true := by rw [show x.servers.length = k by omega]; exact hall
    refine W.exit ?_
    refine W.seq ?_
    refine W.reg X [] [(49, ⟨false, [.a (.lit (.bool _))]⟩)] [2] [] rfl (by (repeat' (first | with_reducible exact AllP.nil | with_reducible refine AllP.mk ?_ ?_ | with_reducible apply And.intro)) <;> skip; (iterate 1 (all_goals try (first | exact (c_spec_l7Count _) | exact fun _ => (c_spec_l7Count _) | exact fun _ _ => (c_spec_l7Count _)))); all_goals (first | (intros; omega) | exact rfl | exact El_all _ (by decide) | exact ⟨rfl, El_all _ (by decide)⟩ | ((intro h1; first | (intro h2; first | (intro h3; refine And.intro ?_ ?_) | refine And.intro ?_ ?_) | refine And.intro ?_ ?_) <;> first | omega | ((try simp only [nb, inr_t, inr_f] at *); (try simp (disch := omega) only [i64w]); omega)) | ((try simp only [nb, inr_t, inr_f] at *); (simp (disch := omega) only [i64w]); omega) | (refine fun _ => ?_; dsimp only [hyps, imps]; omega) | (refine fun _ _ => ?_; dsimp only [hyps, imps]; omega) | exact (u8w _).1 | exact (u8w _).2 | exact (u8n _).1 | exact (u8n _).2 | (simp only [byt, maxLen, lens]; omega) | (intros; simp only [nb] at *; omega))) ?_
    refine W.ret ?_
    exact Fin.ret rfl ⟨by rw [svW, hall2]; rfl, ⟨⟩⟩
theorem c_spec_l32Devices (x : Wld) : Sound ty Tryz.prog 120 [.agg (dec_Wld x)] [.a (.lit (.bool (dvW x)))] := by
  refine Sound.of X Tryz.call120 Tryz.func120 rfl rfl (by decide) Tryz.ntmps120 (by simp) ?_
  intro zb
  refine W.boundA 0 1 rfl rfl (fun hl1 => ?_)
  refine W.boundA 0 2 rfl rfl (fun hl2 => ?_)
  refine W.seq ?_
  refine W.reg X [] [] [1] [] rfl ⟨⟩ ?_
  refine W.seq ?_
  refine W.reg X [] [] [1, 3] [] rfl ⟨⟩ ?_
  refine W.seq ?_
  refine W.seq ?_
  refine W.reg X [] [(14, ⟨false, [.a (.lit (.bool (inr (x.devices.length : Int) 2 8)))]⟩)] [1, 3, 16] [] rfl (by (repeat' (first | with_reducible exact AllP.nil | with_reducible refine AllP.mk ?_ ?_ | with_reducible apply And.intro)) <;> skip; (iterate 1 (all_goals try (first | exact (c_spec_l1In (x.devices.length : Int) 2 8) | exact fun _ => (c_spec_l1In (x.devices.length : Int) 2 8) | exact fun _ _ => (c_spec_l1In (x.devices.length : Int) 2 8)))); all_goals (first | (intros; omega) | exact rfl | exact El_all _ (by decide) | exact ⟨rfl, El_all _ (by decide)⟩ | ((intro h1; first | (intro h2; first | (intro h3; refine And.intro ?_ ?_) | refine And.intro ?_ ?_) | refine And.intro ?_ ?_) <;> first | omega | ((try simp only [nb, inr_t, inr_f] at *); (try simp (disch := omega) only [i64w]); omega)) | ((try simp only [nb, inr_t, inr_f] at *); (simp (disch := omega) only [i64w]); omega) | (refine fun _ => ?_; dsimp only [hyps, imps]; omega) | (refine fun _ _ => ?_; dsimp only [hyps, imps]; omega) | exact (u8w _).1 | exact (u8w _).2 | exact (u8n _).1 | exact (u8n _).2 | (simp only [byt, maxLen, lens]; omega) | (intros; simp only [nb] at *; omega))) ?_
  refine W.cond rfl (fun hb0 => ?_) (fun hb0 => ?_)
  · skip
    refine W.seq ?_
    refine W.reg X [] [] [2] [] rfl ⟨⟩ ?_
    refine W.ret ?_
    exact Fin.ret rfl ⟨by rw [show dvW x = false from by rw [dvW, or_no1 (R := ((x.devices.length : Int).tmod 2 == 0) && inr x.devices.length 2 8) hb0 (by simp only [ite_tt, ite_ff, gt_iff_lt, ge_iff_le, not_dlt, not_dle, bne_not, deq, decide_not, ne_eq, Bool.not_and, Bool.not_or, Bool.not_not, Bool.and_true, Bool.true_and, Bool.or_false, Bool.false_or, Int.toNat_natCast] <;> first | rfl | ac_rfl)]; rfl], ⟨⟩⟩
  · have hh : (((x.devices.length : Int).tmod 2 == 0) && inr x.devices.length 2 8) = true := or_yes hb0 (by simp only [ite_tt, ite_ff, gt_iff_lt, ge_iff_le, not_dlt, not_dle, bne_not, deq, decide_not, ne_eq, Bool.not_and, Bool.not_or, Bool.not_not, Bool.and_true, Bool.true_and, Bool.or_false, Bool.false_or, Int.toNat_natCast] <;> first | rfl | ac_rfl)
    have hev : x.devices.length % 2 = 0 := by simp only [Bool.and_eq_true, beq_iff_eq] at hh; have := hh.1; rw [tmod_pos (by omega)] at this; omega
    have hd8 : x.devices.length ≤ 8 := by simp only [Bool.and_eq_true, inr_t] at hh; omega
    refine W.skip ?_
    refine W.seq ?_
    refine W.seq ?_
    refine W.reg X [] [] [1, 3, 4] [] rfl ⟨⟩ ?_
    refine W.block ?_
    refine W.loopO (fun k => k ≤ x.devices.length ∧ (List.range k).all (okD x) = true) (fun k : Nat => [(4, .one (.a (.lit (.int .i64 k))))]) (fun k => []) (fun k => x.devices.length - k) 0 (fun k => rfl) ⟨Nat.zero_le _, rfl⟩ rfl ?_
    rintro k ⟨hk, hall⟩
    refine W.seq ?_
    refine W.seq ?_
    refine W.reg X [] [] [1, 3, 4, 19] [] rfl ⟨⟩ ?_
    refine W.cond rfl (fun hb1 => ?_) (fun hb1 => ?_)
    · try simp only [nb, inr_t, inr_f, isEmpty_t] at hb1
      have hx := xorN k (by omega)
      have hlt := xor_lt k x.devices.length hb1 hev
      refine W.skip ?_
      refine W.seq ?_
      refine W.block ?_
      refine W.seq ?_
      refine W.reg X [] [] [1, 3, 4, 5] [] rfl (by (repeat' (first | exact True.intro | apply And.intro)) <;> first | (intros; omega) | exact rfl | exact El_all _ (by decide) | exact ⟨rfl, El_all _ (by decide)⟩ | ((intro h1; first | (intro h2; first | (intro h3; refine And.intro ?_ ?_) | refine And.intro ?_ ?_) | refine And.intro ?_ ?_) <;> first | omega | ((try simp only [nb, inr_t, inr_f] at *); (try simp (disch := omega) only [i64w]); omega)) | ((try simp only [nb, inr_t, inr_f] at *); (simp (disch := omega) only [i64w]); omega) | (refine fun _ => ?_; dsimp only [hyps, imps]; omega) | (refine fun _ _ => ?_; dsimp only [hyps, imps]; omega) | exact (u8w _).1 | exact (u8w _).2 | exact (u8n _).1 | exact (u8n _).2 | (simp only [byt, maxLen, lens]; omega) | (intros; simp only [nb] at *; omega)) ?_
      refine W.seq ?_
      refine W.draw X [] [(28, ⟨false, [.a (.lit (.bool (okDev (x.devices.getD k (dfl .Dev)))))]⟩)] [1, 3, 4, 66] [] 40 MO (by kernel_rfl) rfl (by (repeat' (first | with_reducible exact AllP.nil | with_reducible refine AllP.mk ?_ ?_ | with_reducible apply And.intro)) <;> skip; (iterate 1 (all_goals try (first | exact (c_spec_IsValidDevice (x.devices.getD k (dfl .Dev))) | exact fun _ => (c_spec_IsValidDevice (x.devices.getD k (dfl .Dev))) | exact fun _ _ => (c_spec_IsValidDevice (x.devices.getD k (dfl .Dev)))))); all_goals (first | (intros; omega) | exact rfl | exact El_all _ (by decide) | exact ⟨rfl, El_all _ (by decide)⟩ | ((intro h1; first | (intro h2; first | (intro h3; refine And.intro ?_ ?_) | refine And.intro ?_ ?_) | refine And.intro ?_ ?_) <;> first | omega | ((try simp only [nb, inr_t, inr_f] at *); (try simp (disch := omega) only [i64w]); omega)) | ((try simp only [nb, inr_t, inr_f] at *); (simp (disch := omega) only [i64w]); omega) | (refine fun _ => ?_; dsimp only [hyps, imps]; omega) | (refine fun _ _ => ?_; dsimp only [hyps, imps]; omega) | exact (u8w _).1 | exact (u8w _).2 | exact (u8n _).1 | exact (u8n _).2 | (simp only [byt, maxLen, lens]; omega) | (intros; simp only [nb] at *; omega))) ?_
      refine W.cond rfl (fun hb2 => ?_) (fun hb2 => ?_)
      · have hk3 : okD x k = false := or_no1 hb2 (by simp only [okD, hx, ite_tt, ite_ff, gt_iff_lt, ge_iff_le, not_dlt, not_dle, bne_not, deq, decide_not, ne_eq, Bool.not_and, Bool.not_or, Bool.not_not, Bool.and_true, Bool.true_and, Bool.or_false, Bool.false_or, Int.toNat_natCast] <;> first | rfl | ac_rfl)
        refine W.seq ?_
        refine W.reg X [] [] [2] [] rfl ⟨⟩ ?_
        refine W.ret ?_
        exact Fin.ret rfl ⟨by rw [show dvW x = false from by rw [dvW, range_no hb1 hk3]; simp], ⟨⟩⟩
      · have hk3 : okD x k = true := or_yes hb2 (by simp only [okD, hx, ite_tt, ite_ff, gt_iff_lt, ge_iff_le, not_dlt, not_dle, bne_not, deq, decide_not, ne_eq, Bool.not_and, Bool.not_or, Bool.not_not, Bool.and_true, Bool.true_and, Bool.or_false, Bool.false_or, Int.toNat_natCast] <;> first | rfl | ac_rfl)
        refine W.skip ?_
        refine W.reg X [] [] [1, 3, 4] [] rfl ⟨⟩ ?_
        refine ⟨k + 1, ⟨by omega, range_all hall hk3⟩, by omega, ?_⟩
        rw [wadd _ k rfl (by omega)]
        try rfl
    · try simp only [nb, inr_t, inr_f, isEmpty_t] at hb1
      have hall3 : (List.range x.devices.length).all (okD x) = true := by rw [show x.devices.length = k by omega]; exact hall
      refine W.exit ?_
      refine W.seq ?_
      refine W.reg X [] [] [2] [] rfl ⟨⟩ ?_
      refine W.ret ?_
      exact Fin.ret rfl ⟨by rw [dvW, hh, hall3]; rfl, ⟨⟩⟩
theorem c_spec_IsValidWorld (x : Wld) : Sound ty Tryz.prog 60 [.agg (dec_Wld x)] [.a (.lit (.bool (okW x)))] := by
  refine Sound.of X Tryz.call60 Tryz.func60 rfl rfl (by decide) Tryz.ntmps60 (by simp) ?_
  intro zb
  refine W.seq ?_
  refine W.reg X [] [] [1] [] rfl ⟨⟩ ?_
  refine W.seq ?_
  refine W.draw X [] [(5, ⟨false, [.a (.lit (.bool (inr x.rows 1 64)))]⟩), (9, ⟨false, [.a (.lit (.bool (inr x.round 0 100000)))]⟩), (13, ⟨false, [.a (.lit (.bool (svW x)))]⟩), (17, ⟨false, [.a (.lit (.bool (dvW x)))]⟩), (22, ⟨false, [.a (.lit (.bool (okArc x.archive)))]⟩), (35, ⟨false, [.a (.lit (.int .i64 (lastR x.archive)))]⟩), (43, ⟨false, [.a (.lit (.bool (okKey x.master)))]⟩)] [2] [] 48 MO (by kernel_rfl) rfl (by (repeat' (first | with_reducible exact AllP.nil | with_reducible refine AllP.mk ?_ ?_ | with_reducible apply And.intro)) <;> skip; (iterate 7 (all_goals try (first | exact (c_spec_l1In x.rows 1 64) | exact fun _ => (c_spec_l1In x.rows 1 64) | exact fun _ _ => (c_spec_l1In x.rows 1 64) | exact (c_spec_l1In x.round 0 100000) | exact fun _ => (c_spec_l1In x.round 0 100000) | exact fun _ _ => (c_spec_l1In x.round 0 100000) | exact (c_spec_l32Servers x) | exact fun _ => (c_spec_l32Servers x) | exact fun _ _ => (c_spec_l32Servers x) | exact (c_spec_l32Devices x) | exact fun _ => (c_spec_l32Devices x) | exact fun _ _ => (c_spec_l32Devices x) | exact (c_spec_IsValidArchive x.archive) | exact fun _ => (c_spec_IsValidArchive x.archive) | exact fun _ _ => (c_spec_IsValidArchive x.archive) | exact (c_spec_LastRound x.archive) | exact fun _ => (c_spec_LastRound x.archive) | exact fun _ _ => (c_spec_LastRound x.archive) | exact (c_spec_IsValidKey x.master) | exact fun _ => (c_spec_IsValidKey x.master) | exact fun _ _ => (c_spec_IsValidKey x.master)))); all_goals (first | (intros; omega) | exact rfl | exact El_all _ (by decide) | exact ⟨rfl, El_all _ (by decide)⟩ | ((intro h1; first | (intro h2; first | (intro h3; refine And.intro ?_ ?_) | refine And.intro ?_ ?_) | refine And.intro ?_ ?_) <;> first | omega | ((try simp only [nb, inr_t, inr_f] at *); (try simp (disch := omega) only [i64w]); omega)) | ((try simp only [nb, inr_t, inr_f] at *); (simp (disch := omega) only [i64w]); omega) | (refine fun _ => ?_; dsimp only [hyps, imps]; omega) | (refine fun _ _ => ?_; dsimp only [hyps, imps]; omega) | exact (u8w _).1 | exact (u8w _).2 | exact (u8n _).1 | exact (u8n _).2 | (simp only [byt, maxLen, lens]; omega) | (intros; simp only [nb] at *; omega))) ?_
  refine W.ret ?_
  exact Fin.ret rfl ⟨(congrArg Value.bool (by simp only [okW, hdW, svW, dvW, ite_tt, ite_ff, gt_iff_lt, ge_iff_le, not_dlt, not_dle, bne_not, deq, decide_not, ne_eq, Bool.not_and, Bool.not_or, Bool.not_not, Bool.and_true, Bool.true_and, Bool.or_false, Bool.false_or, Int.toNat_natCast] <;> first | rfl | ac_rfl)), ⟨⟩⟩
theorem c_impl_SealCell (key c : Int) (p : Plain) : Sound ty Tryz.prog 225 [.a (.lit (.int .i64 key)), .a (.lit (.int .i64 c)), .agg (dec_Plain p)] [.a (.sl .u8 (sealC key c p)), .a (.lit (.bool (sealOK key c p)))] := by
  refine Sound.of X Tryz.call225 Tryz.func225 rfl rfl (by decide) Tryz.ntmps225 (by simp) ?_
  intro zb
  refine W.seq ?_
  refine W.reg X [] [] [0, 1, 5] [] rfl ⟨⟩ ?_
  refine W.seq ?_
  refine W.seq ?_
  refine W.reg X [] [(11, ⟨false, [.a (.lit (.bool (okKey key)))]⟩), (15, ⟨false, [.a (.lit (.bool (inr c 0 1000000000000)))]⟩), (20, ⟨false, [.a (.lit (.bool (okPlain p)))]⟩)] [0, 1, 5, 22] [] rfl (by (repeat' (first | with_reducible exact AllP.nil | with_reducible refine AllP.mk ?_ ?_ | with_reducible apply And.intro)) <;> skip; (iterate 3 (all_goals try (first | exact (c_impl_IsValidKey key) | exact fun _ => (c_impl_IsValidKey key) | exact fun _ _ => (c_impl_IsValidKey key) | exact (c_impl_InRange c 0 1000000000000) | exact fun _ => (c_impl_InRange c 0 1000000000000) | exact fun _ _ => (c_impl_InRange c 0 1000000000000) | exact (c_impl_IsValidPlain p) | exact fun _ => (c_impl_IsValidPlain p) | exact fun _ _ => (c_impl_IsValidPlain p)))); all_goals (first | (intros; omega) | exact rfl | exact El_all _ (by decide) | exact ⟨rfl, El_all _ (by decide)⟩ | ((intro h1; first | (intro h2; first | (intro h3; refine And.intro ?_ ?_) | refine And.intro ?_ ?_) | refine And.intro ?_ ?_) <;> first | omega | ((try simp only [nb, inr_t, inr_f] at *); (try simp (disch := omega) only [i64w]); omega)) | ((try simp only [nb, inr_t, inr_f] at *); (simp (disch := omega) only [i64w]); omega) | (refine fun _ => ?_; dsimp only [hyps, imps]; omega) | (refine fun _ _ => ?_; dsimp only [hyps, imps]; omega) | exact (u8w _).1 | exact (u8w _).2 | exact (u8n _).1 | exact (u8n _).2 | (simp only [byt, maxLen, lens]; omega) | (intros; simp only [nb] at *; omega))) ?_
  refine W.cond rfl (fun hb0 => ?_) (fun hb0 => ?_)
  · have hk : sealOK key c p = false := or_no1 hb0 (by simp only [sealOK, ite_tt, ite_ff, gt_iff_lt, ge_iff_le, not_dlt, not_dle, bne_not, deq, decide_not, ne_eq, Bool.not_and, Bool.not_or, Bool.not_not, Bool.and_true, Bool.true_and, Bool.or_false, Bool.false_or, Int.toNat_natCast] <;> first | rfl | ac_rfl)
    refine W.seq ?_
    refine W.reg X [] [] [6, 7] [] rfl ⟨⟩ ?_
    refine W.ret ?_
    exact Fin.ret rfl ⟨by rw [sealC, if_neg (by rw [hk]; decide)], by rw [hk], ⟨⟩⟩
  · have hk : sealOK key c p = true := or_yes hb0 (by simp only [sealOK, ite_tt, ite_ff, gt_iff_lt, ge_iff_le, not_dlt, not_dle, bne_not, deq, decide_not, ne_eq, Bool.not_and, Bool.not_or, Bool.not_not, Bool.and_true, Bool.true_and, Bool.or_false, Bool.false_or, Int.toNat_natCast] <;> first | rfl | ac_rfl)
    have hp := sealOK_body hk
    have hst : (stream (kh key [61, c]) (18 : Int).toNat).length = 18 := stream_len _ _
    have hpl : (padded key c p).length ≤ 100 := by unfold padded; simp only [List.length_append, List.length_drop, List.length_cons, List.length_nil, stream_len]; omega
    have hf4 : (four (ccheck key c (encr (ckey key c) (padded key c p)))).length = 4 := rfl
    have hel : (encr (ckey key c) (padded key c p)).length ≤ 100 := by rw [encr_len]; exact hpl
    refine W.skip ?_
    refine W.seq ?_
    refine W.reg X [(33, 30)] [] [0, 1, 5, 8] [] rfl (by (repeat' (first | exact True.intro | apply And.intro)) <;> first | (intros; omega) | exact rfl | exact El_all _ (by decide) | exact ⟨rfl, El_all _ (by decide)⟩ | ((intro h1; first | (intro h2; first | (intro h3; refine And.intro ?_ ?_) | refine And.intro ?_ ?_) | refine And.intro ?_ ?_) <;> first | omega | ((try simp only [nb, inr_t, inr_f] at *); (try simp (disch := omega) only [i64w]); omega)) | ((try simp only [nb, inr_t, inr_f] at *); (simp (disch := omega) only [i64w]); omega) | (refine fun _ => ?_; dsimp only [hyps, imps]; omega) | (refine fun _ _ => ?_; dsimp only [hyps, imps]; omega) | exact (u8w _).1 | exact (u8w _).2 | exact (u8n _).1 | exact (u8n _).2 | (simp only [byt, maxLen, lens]; omega) | (intros; simp only [nb] at *; omega)) ?_
    refine W.seq ?_
    refine W.draw X [(44, 30)] [(38, ⟨false, [.a (.lit (.int .i64 (kh key [61, c])))]⟩), (39, ⟨true, [.a (.sl .u8 (stream (kh key [61, c]) (18 : Int).toNat))]⟩)] [0, 1, 8] [] 10 MO (by kernel_rfl) rfl (by (repeat' (first | with_reducible exact AllP.nil | with_reducible refine AllP.mk ?_ ?_ | with_reducible apply And.intro)) <;> skip; (iterate 2 (all_goals try (first | exact (c_impl_KeyedHash key [61, c] (by first | assumption | omega | (simp; done) | (simp; omega))) | exact fun _ => (c_impl_KeyedHash key [61, c] (by first | assumption | omega | (simp; done) | (simp; omega))) | exact fun _ _ => (c_impl_KeyedHash key [61, c] (by first | assumption | omega | (simp; done) | (simp; omega))) | exact (c_impl_StreamBytes (kh key [61, c]) 18 (by first | assumption | omega | (simp; done) | (simp; omega)) (by first | assumption | omega | (simp; done) | (simp; omega))) | exact fun _ => (c_impl_StreamBytes (kh key [61, c]) 18 (by first | assumption | omega | (simp; done) | (simp; omega)) (by first | assumption | omega | (simp; done) | (simp; omega))) | exact fun _ _ => (c_impl_StreamBytes (kh key [61, c]) 18 (by first | assumption | omega | (simp; done) | (simp; omega)) (by first | assumption | omega | (simp; done) | (simp; omega)))))); all_goals (first | (intros; omega) | exact rfl | exact El_all _ (by decide) | exact ⟨rfl, El_all _ (by decide)⟩ | ((intro h1; first | (intro h2; first | (intro h3; refine And.intro ?_ ?_) | refine And.intro ?_ ?_) | refine And.intro ?_ ?_) <;> first | omega | ((try simp only [nb, inr_t, inr_f] at *); (try simp (disch := omega) only [i64w]); omega)) | ((try simp only [nb, inr_t, inr_f] at *); (simp (disch := omega) only [i64w]); omega) | (refine fun _ => ?_; dsimp only [hyps, imps]; omega) | (refine fun _ _ => ?_; dsimp only [hyps, imps]; omega) | exact (u8w _).1 | exact (u8w _).2 | exact (u8n _).1 | exact (u8n _).2 | (simp only [byt, maxLen, lens]; omega) | (intros; simp only [nb] at *; omega))) ?_
    refine W.seq ?_
    refine W.reg X [] [(47, ⟨false, [.a (.lit (.int .i64 (ckey key c)))]⟩), (49, ⟨true, [.a (.sl .u8 (encr (ckey key c) (padded key c p)))]⟩)] [0, 1, 9] [] rfl (by (repeat' (first | with_reducible exact AllP.nil | with_reducible refine AllP.mk ?_ ?_ | with_reducible apply And.intro)) <;> skip; (iterate 2 (all_goals try (first | exact (c_impl_cellKey key c) | exact fun _ => (c_impl_cellKey key c) | exact fun _ _ => (c_impl_cellKey key c) | exact (c_impl_Encrypt (ckey key c) (padded key c p) (by first | assumption | omega | (simp; done) | (simp; omega))) | exact fun _ => (c_impl_Encrypt (ckey key c) (padded key c p) (by first | assumption | omega | (simp; done) | (simp; omega))) | exact fun _ _ => (c_impl_Encrypt (ckey key c) (padded key c p) (by first | assumption | omega | (simp; done) | (simp; omega)))))); all_goals (first | (intros; omega) | exact rfl | exact El_all _ (by decide) | exact ⟨rfl, El_all _ (by decide)⟩ | ((intro h1; first | (intro h2; first | (intro h3; refine And.intro ?_ ?_) | refine And.intro ?_ ?_) | refine And.intro ?_ ?_) <;> first | omega | ((try simp only [nb, inr_t, inr_f] at *); (try simp (disch := omega) only [i64w]); omega)) | ((try simp only [nb, inr_t, inr_f] at *); (simp (disch := omega) only [i64w]); omega) | (refine fun _ => ?_; dsimp only [hyps, imps]; omega) | (refine fun _ _ => ?_; dsimp only [hyps, imps]; omega) | exact (u8w _).1 | exact (u8w _).2 | exact (u8n _).1 | exact (u8n _).2 | (simp only [byt, maxLen, lens]; omega) | (intros; simp only [nb] at *; omega))) ?_
    refine W.seq ?_
    refine W.reg X [(55, 49)] [(54, ⟨true, [.a (.sl .u8 (four (ccheck key c (encr (ckey key c) (padded key c p)))))]⟩)] [6, 7] [] rfl (by (repeat' (first | with_reducible exact AllP.nil | with_reducible refine AllP.mk ?_ ?_ | with_reducible apply And.intro)) <;> skip; (iterate 1 (all_goals try (first | exact (c_impl_checkBytes key c (encr (ckey key c) (padded key c p)) (by first | assumption | omega | (simp; done) | (simp; omega))) | exact fun _ => (c_impl_checkBytes key c (encr (ckey key c) (padded key c p)) (by first | assumption | omega | (simp; done) | (simp; omega))) | exact fun _ _ => (c_impl_checkBytes key c (encr (ckey key c) (padded key c p)) (by first | assumption | omega | (simp; done) | (simp; omega)))))); all_goals (first | (intros; omega) | exact rfl | exact El_all _ (by decide) | exact ⟨rfl, El_all _ (by decide)⟩ | ((intro h1; first | (intro h2; first | (intro h3; refine And.intro ?_ ?_) | refine And.intro ?_ ?_) | refine And.intro ?_ ?_) <;> first | omega | ((try simp only [nb, inr_t, inr_f] at *); (try simp (disch := omega) only [i64w]); omega)) | ((try simp only [nb, inr_t, inr_f] at *); (simp (disch := omega) only [i64w]); omega) | (refine fun _ => ?_; dsimp only [hyps, imps]; omega) | (refine fun _ _ => ?_; dsimp only [hyps, imps]; omega) | exact (u8w _).1 | exact (u8w _).2 | exact (u8n _).1 | exact (u8n _).2 | (simp only [byt, maxLen, lens]; omega) | (intros; simp only [nb] at *; omega))) ?_
    refine W.ret ?_
    exact Fin.ret rfl ⟨by rw [sealC, if_pos hk], by rw [hk], ⟨⟩⟩
theorem c_spec_SealCell (key c : Int) (p : Plain) : Sound ty Tryz.prog 213 [.a (.lit (.int .i64 key)), .a (.lit (.int .i64 c)), .agg (dec_Plain p)] [.a (.sl .u8 (sealC key c p)), .a (.lit (.bool (sealOK key c p)))] := by
  refine Sound.of X Tryz.call213 Tryz.func213 rfl rfl (by decide) Tryz.ntmps213 (by simp) ?_
  intro zb
  refine W.seq ?_
  refine W.reg X [] [] [0, 1, 5] [] rfl ⟨⟩ ?_
  refine W.seq ?_
  refine W.seq ?_
  refine W.reg X [] [(12, ⟨false, [.a (.lit (.bool (okKey key)))]⟩), (16, ⟨false, [.a (.lit (.bool (inr c 0 1000000000000)))]⟩), (21, ⟨false, [.a (.lit (.bool (okPlain p)))]⟩)] [0, 1, 5, 23] [] rfl (by (repeat' (first | with_reducible exact AllP.nil | with_reducible refine AllP.mk ?_ ?_ | with_reducible apply And.intro)) <;> skip; (iterate 3 (all_goals try (first | exact (c_spec_IsValidKey key) | exact fun _ => (c_spec_IsValidKey key) | exact fun _ _ => (c_spec_IsValidKey key) | exact (c_spec_l1In c 0 1000000000000) | exact fun _ => (c_spec_l1In c 0 1000000000000) | exact fun _ _ => (c_spec_l1In c 0 1000000000000) | exact (c_spec_IsValidPlain p) | exact fun _ => (c_spec_IsValidPlain p) | exact fun _ _ => (c_spec_IsValidPlain p)))); all_goals (first | (intros; omega) | exact rfl | exact El_all _ (by decide) | exact ⟨rfl, El_all _ (by decide)⟩ | ((intro h1; first | (intro h2; first | (intro h3; refine And.intro ?_ ?_) | refine And.intro ?_ ?_) | refine And.intro ?_ ?_) <;> first | omega | ((try simp only [nb, inr_t, inr_f] at *); (try simp (disch := omega) only [i64w]); omega)) | ((try simp only [nb, inr_t, inr_f] at *); (simp (disch := omega) only [i64w]); omega) | (refine fun _ => ?_; dsimp only [hyps, imps]; omega) | (refine fun _ _ => ?_; dsimp only [hyps, imps]; omega) | exact (u8w _).1 | exact (u8w _).2 | exact (u8n _).1 | exact (u8n _).2 | (simp only [byt, maxLen, lens]; omega) | (intros; simp only [nb] at *; omega))) ?_
  refine W.cond rfl (fun hb0 => ?_) (fun hb0 => ?_)
  · have hk : sealOK key c p = false := or_no1 hb0 (by simp only [sealOK, ite_tt, ite_ff, gt_iff_lt, ge_iff_le, not_dlt, not_dle, bne_not, deq, decide_not, ne_eq, Bool.not_and, Bool.not_or, Bool.not_not, Bool.and_true, Bool.true_and, Bool.or_false, Bool.false_or, Int.toNat_natCast] <;> first | rfl | ac_rfl)
    refine W.seq ?_
    refine W.reg X [] [] [6, 7] [] rfl (by (repeat' (first | exact True.intro | apply And.intro)) <;> first | (intros; omega) | exact rfl | exact El_all _ (by decide) | exact ⟨rfl, El_all _ (by decide)⟩ | ((intro h1; first | (intro h2; first | (intro h3; refine And.intro ?_ ?_) | refine And.intro ?_ ?_) | refine And.intro ?_ ?_) <;> first | omega | ((try simp only [nb, inr_t, inr_f] at *); (try simp (disch := omega) only [i64w]); omega)) | ((try simp only [nb, inr_t, inr_f] at *); (simp (disch := omega) only [i64w]); omega) | (refine fun _ => ?_; dsimp only [hyps, imps]; omega) | (refine fun _ _ => ?_; dsimp only [hyps, imps]; omega) | exact (u8w _).1 | exact (u8w _).2 | exact (u8n _).1 | exact (u8n _).2 | (simp only [byt, maxLen, lens]; omega) | (intros; simp only [nb] at *; omega)) ?_
    refine W.ret ?_
    exact Fin.ret rfl ⟨by rw [sealC, if_neg (by rw [hk]; decide)], by rw [hk], ⟨⟩⟩
  · have hk : sealOK key c p = true := or_yes hb0 (by simp only [sealOK, ite_tt, ite_ff, gt_iff_lt, ge_iff_le, not_dlt, not_dle, bne_not, deq, decide_not, ne_eq, Bool.not_and, Bool.not_or, Bool.not_not, Bool.and_true, Bool.true_and, Bool.or_false, Bool.false_or, Int.toNat_natCast] <;> first | rfl | ac_rfl)
    have hp := sealOK_body hk
    have hst : (stream (kh key [61, c]) (18 : Int).toNat).length = 18 := stream_len _ _
    have hpl : (padded key c p).length ≤ 100 := by unfold padded; simp only [List.length_append, List.length_drop, List.length_cons, List.length_nil, stream_len]; omega
    have hf4 : (four (ccheck key c (encr (ckey key c) (padded key c p)))).length = 4 := rfl
    have hel : (encr (ckey key c) (padded key c p)).length ≤ 100 := by rw [encr_len]; exact hpl
    refine W.skip ?_
    refine W.seq ?_
    refine W.reg X [(35, 32)] [] [0, 1, 5, 8] [] rfl (by (repeat' (first | exact True.intro | apply And.intro)) <;> first | (intros; omega) | exact rfl | exact El_all _ (by decide) | exact ⟨rfl, El_all _ (by decide)⟩ | ((intro h1; first | (intro h2; first | (intro h3; refine And.intro ?_ ?_) | refine And.intro ?_ ?_) | refine And.intro ?_ ?_) <;> first | omega | ((try simp only [nb, inr_t, inr_f] at *); (try simp (disch := omega) only [i64w]); omega)) | ((try simp only [nb, inr_t, inr_f] at *); (simp (disch := omega) only [i64w]); omega) | (refine fun _ => ?_; dsimp only [hyps, imps]; omega) | (refine fun _ _ => ?_; dsimp only [hyps, imps]; omega) | exact (u8w _).1 | exact (u8w _).2 | exact (u8n _).1 | exact (u8n _).2 | (simp only [byt, maxLen, lens]; omega) | (intros; simp only [nb] at *; omega)) ?_
    refine W.seq ?_
    refine W.draw X [(46, 32)] [(40, ⟨false, [.a (.lit (.int .i64 (kh key [61, c])))]⟩), (41, ⟨true, [.a (.sl .u8 (stream (kh key [61, c]) (18 : Int).toNat))]⟩)] [0, 1, 8] [] 10 MO (by kernel_rfl) rfl (by (repeat' (first | with_reducible exact AllP.nil | with_reducible refine AllP.mk ?_ ?_ | with_reducible apply And.intro)) <;> skip; (iterate 2 (all_goals try (first | exact (c_spec_KeyedHash key [61, c] (by first | assumption | omega | (simp; done) | (simp; omega))) | exact fun _ => (c_spec_KeyedHash key [61, c] (by first | assumption | omega | (simp; done) | (simp; omega))) | exact fun _ _ => (c_spec_KeyedHash key [61, c] (by first | assumption | omega | (simp; done) | (simp; omega))) | exact (c_spec_StreamBytes (kh key [61, c]) 18 (by first | assumption | omega | (simp; done) | (simp; omega)) (by first | assumption | omega | (simp; done) | (simp; omega))) | exact fun _ => (c_spec_StreamBytes (kh key [61, c]) 18 (by first | assumption | omega | (simp; done) | (simp; omega)) (by first | assumption | omega | (simp; done) | (simp; omega))) | exact fun _ _ => (c_spec_StreamBytes (kh key [61, c]) 18 (by first | assumption | omega | (simp; done) | (simp; omega)) (by first | assumption | omega | (simp; done) | (simp; omega)))))); all_goals (first | (intros; omega) | exact rfl | exact El_all _ (by decide) | exact ⟨rfl, El_all _ (by decide)⟩ | ((intro h1; first | (intro h2; first | (intro h3; refine And.intro ?_ ?_) | refine And.intro ?_ ?_) | refine And.intro ?_ ?_) <;> first | omega | ((try simp only [nb, inr_t, inr_f] at *); (try simp (disch := omega) only [i64w]); omega)) | ((try simp only [nb, inr_t, inr_f] at *); (simp (disch := omega) only [i64w]); omega) | (refine fun _ => ?_; dsimp only [hyps, imps]; omega) | (refine fun _ _ => ?_; dsimp only [hyps, imps]; omega) | exact (u8w _).1 | exact (u8w _).2 | exact (u8n _).1 | exact (u8n _).2 | (simp only [byt, maxLen, lens]; omega) | (intros; simp only [nb] at *; omega))) ?_
    refine W.seq ?_
    refine W.reg X [] [(49, ⟨false, [.a (.lit (.int .i64 (ckey key c)))]⟩), (51, ⟨true, [.a (.sl .u8 (encr (ckey key c) (padded key c p)))]⟩)] [0, 1, 9] [] rfl (by (repeat' (first | with_reducible exact AllP.nil | with_reducible refine AllP.mk ?_ ?_ | with_reducible apply And.intro)) <;> skip; (iterate 2 (all_goals try (first | exact (c_spec_l13Cipher key c) | exact fun _ => (c_spec_l13Cipher key c) | exact fun _ _ => (c_spec_l13Cipher key c) | exact (c_spec_Encrypt (ckey key c) (padded key c p) (by first | assumption | omega | (simp; done) | (simp; omega))) | exact fun _ => (c_spec_Encrypt (ckey key c) (padded key c p) (by first | assumption | omega | (simp; done) | (simp; omega))) | exact fun _ _ => (c_spec_Encrypt (ckey key c) (padded key c p) (by first | assumption | omega | (simp; done) | (simp; omega)))))); all_goals (first | (intros; omega) | exact rfl | exact El_all _ (by decide) | exact ⟨rfl, El_all _ (by decide)⟩ | ((intro h1; first | (intro h2; first | (intro h3; refine And.intro ?_ ?_) | refine And.intro ?_ ?_) | refine And.intro ?_ ?_) <;> first | omega | ((try simp only [nb, inr_t, inr_f] at *); (try simp (disch := omega) only [i64w]); omega)) | ((try simp only [nb, inr_t, inr_f] at *); (simp (disch := omega) only [i64w]); omega) | (refine fun _ => ?_; dsimp only [hyps, imps]; omega) | (refine fun _ _ => ?_; dsimp only [hyps, imps]; omega) | exact (u8w _).1 | exact (u8w _).2 | exact (u8n _).1 | exact (u8n _).2 | (simp only [byt, maxLen, lens]; omega) | (intros; simp only [nb] at *; omega))) ?_
    refine W.seq ?_
    refine W.reg X [] [(55, ⟨false, [.a (.lit (.int .i64 (ccheck key c (encr (ckey key c) (padded key c p)))))]⟩)] [9, 10] [] rfl (by (repeat' (first | with_reducible exact AllP.nil | with_reducible refine AllP.mk ?_ ?_ | with_reducible apply And.intro)) <;> skip; (iterate 1 (all_goals try (first | exact (c_spec_CellCheck key c (encr (ckey key c) (padded key c p)) (by first | assumption | omega | (simp; done) | (simp; omega))) | exact fun _ => (c_spec_CellCheck key c (encr (ckey key c) (padded key c p)) (by first | assumption | omega | (simp; done) | (simp; omega))) | exact fun _ _ => (c_spec_CellCheck key c (encr (ckey key c) (padded key c p)) (by first | assumption | omega | (simp; done) | (simp; omega)))))); all_goals (first | (intros; omega) | exact rfl | exact El_all _ (by decide) | exact ⟨rfl, El_all _ (by decide)⟩ | ((intro h1; first | (intro h2; first | (intro h3; refine And.intro ?_ ?_) | refine And.intro ?_ ?_) | refine And.intro ?_ ?_) <;> first | omega | ((try simp only [nb, inr_t, inr_f] at *); (try simp (disch := omega) only [i64w]); omega)) | ((try simp only [nb, inr_t, inr_f] at *); (simp (disch := omega) only [i64w]); omega) | (refine fun _ => ?_; dsimp only [hyps, imps]; omega) | (refine fun _ _ => ?_; dsimp only [hyps, imps]; omega) | exact (u8w _).1 | exact (u8w _).2 | exact (u8n _).1 | exact (u8n _).2 | (simp only [byt, maxLen, lens]; omega) | (intros; simp only [nb] at *; omega))) ?_
    refine W.seq ?_
    refine W.reg X [(69, 51)] [] [6, 7] [] rfl (by (repeat' (first | exact True.intro | apply And.intro)) <;> first | (intros; omega) | exact rfl | exact El_all _ (by decide) | exact ⟨rfl, El_all _ (by decide)⟩ | ((intro h1; first | (intro h2; first | (intro h3; refine And.intro ?_ ?_) | refine And.intro ?_ ?_) | refine And.intro ?_ ?_) <;> first | omega | ((try simp only [nb, inr_t, inr_f] at *); (try simp (disch := omega) only [i64w]); omega)) | ((try simp only [nb, inr_t, inr_f] at *); (simp (disch := omega) only [i64w]); omega) | (refine fun _ => ?_; dsimp only [hyps, imps]; omega) | (refine fun _ _ => ?_; dsimp only [hyps, imps]; omega) | exact (u8w _).1 | exact (u8w _).2 | exact (u8n _).1 | exact (u8n _).2 | (simp only [byt, maxLen, lens]; omega) | (intros; simp only [nb] at *; omega)) ?_
    refine W.ret ?_
    exact Fin.ret rfl ⟨(congrArg (fun z => encr (ckey key c) (padded key c p) ++ z) (four_eq _)).trans (by rw [sealC, if_pos hk]), by rw [hk], ⟨⟩⟩
theorem c_impl_hasClient (x : Wld) (c : Int) : Sound ty Tryz.prog 98 [.agg (dec_Wld x), .a (.lit (.int .i64 c))] [.a (.lit (.bool (hasC x c)))] := by
  refine Sound.of X Tryz.call98 Tryz.func98 rfl rfl (by decide) Tryz.ntmps98 (by simp) ?_
  intro zb
  refine W.boundA 0 2 rfl rfl (fun hl2 => ?_)
  refine W.seq ?_
  refine W.reg X [] [] [1, 2] [] rfl ⟨⟩ ?_
  refine W.seq ?_
  refine W.reg X [] [(10, ⟨false, [.a (.lit (.bool _))]⟩)] [4] [] rfl (by (repeat' (first | with_reducible exact AllP.nil | with_reducible refine AllP.mk ?_ ?_ | with_reducible apply And.intro)) <;> skip; (iterate 1 (all_goals try (first | exact (c_impl_InRange _ _ _) | exact fun _ => (c_impl_InRange _ _ _) | exact fun _ _ => (c_impl_InRange _ _ _)))); all_goals (first | (intros; omega) | exact rfl | exact El_all _ (by decide) | exact ⟨rfl, El_all _ (by decide)⟩ | ((intro h1; first | (intro h2; first | (intro h3; refine And.intro ?_ ?_) | refine And.intro ?_ ?_) | refine And.intro ?_ ?_) <;> first | omega | ((try simp only [nb, inr_t, inr_f] at *); (try simp (disch := omega) only [i64w]); omega)) | ((try simp only [nb, inr_t, inr_f] at *); (simp (disch := omega) only [i64w]); omega) | (refine fun _ => ?_; dsimp only [hyps, imps]; omega) | (refine fun _ _ => ?_; dsimp only [hyps, imps]; omega) | exact (u8w _).1 | exact (u8w _).2 | exact (u8n _).1 | exact (u8n _).2 | (simp only [byt, maxLen, lens]; omega) | (intros; simp only [nb] at *; omega))) ?_
  refine W.ret ?_
  exact Fin.ret rfl ⟨by rw [i64w (by omega)]; rfl, ⟨⟩⟩
theorem c_impl_hasPair (x : Wld) (c : Int) (hd : x.devices.length ≤ 1048576) : Sound ty Tryz.prog 160 [.agg (dec_Wld x), .a (.lit (.int .i64 c))] [.a (.lit (.bool (pairOK x c)))] := by
  refine Sound.of X Tryz.call160 Tryz.func160 rfl rfl (by decide) Tryz.ntmps160 (by simp) ?_
  intro zb
  refine W.seq ?_
  refine W.reg X [] [] [1, 2] [] rfl ⟨⟩ ?_
  refine W.seq ?_
  refine W.reg X [] [(7, ⟨false, [.a (.lit (.bool (hasC x c)))]⟩), (12, ⟨false, [.a (.lit (.bool (hasC x (IntKind.i64.wrap (BitVec.ofInt IntKind.i64.bits c ^^^ BitVec.ofInt IntKind.i64.bits 1).toNat))))]⟩)] [4] [] rfl (by (repeat' (first | with_reducible exact AllP.nil | with_reducible refine AllP.mk ?_ ?_ | with_reducible apply And.intro)) <;> skip; (iterate 2 (all_goals try (first | exact (c_impl_hasClient x c) | exact fun _ => (c_impl_hasClient x c) | exact fun _ _ => (c_impl_hasClient x c) | exact (c_impl_hasClient x (IntKind.i64.wrap (BitVec.ofInt IntKind.i64.bits c ^^^ BitVec.ofInt IntKind.i64.bits 1).toNat)) | exact fun _ => (c_impl_hasClient x (IntKind.i64.wrap (BitVec.ofInt IntKind.i64.bits c ^^^ BitVec.ofInt IntKind.i64.bits 1).toNat)) | exact fun _ _ => (c_impl_hasClient x (IntKind.i64.wrap (BitVec.ofInt IntKind.i64.bits c ^^^ BitVec.ofInt IntKind.i64.bits 1).toNat))))); all_goals (first | (intros; omega) | exact rfl | exact El_all _ (by decide) | exact ⟨rfl, El_all _ (by decide)⟩ | ((intro h1; first | (intro h2; first | (intro h3; refine And.intro ?_ ?_) | refine And.intro ?_ ?_) | refine And.intro ?_ ?_) <;> first | omega | ((try simp only [nb, inr_t, inr_f] at *); (try simp (disch := omega) only [i64w]); omega)) | ((try simp only [nb, inr_t, inr_f] at *); (simp (disch := omega) only [i64w]); omega) | (refine fun _ => ?_; dsimp only [hyps, imps]; omega) | (refine fun _ _ => ?_; dsimp only [hyps, imps]; omega) | exact (u8w _).1 | exact (u8w _).2 | exact (u8n _).1 | exact (u8n _).2 | (simp only [byt, maxLen, lens]; omega) | (intros; simp only [nb] at *; omega))) ?_
  refine W.ret ?_
  exact Fin.ret rfl ⟨by rw [ite_ff, pair_impl hd], ⟨⟩⟩
theorem c_spec_l37Pair (x : Wld) (c : Int) (hd : x.devices.length ≤ 1048576) : Sound ty Tryz.prog 154 [.agg (dec_Wld x), .a (.lit (.int .i64 c))] [.a (.lit (.bool (pairOK x c)))] := by
  refine Sound.of X Tryz.call154 Tryz.func154 rfl rfl (by decide) Tryz.ntmps154 (by simp) ?_
  intro zb
  refine W.seq ?_
  refine W.reg X [] [] [1, 2] [] rfl ⟨⟩ ?_
  refine W.seq ?_
  refine W.reg X [] [(10, ⟨false, [.a (.lit (.bool (inr c 0 (IntKind.i64.wrap ((x.devices.length : Int) - 1)))))]⟩)] [4] [] rfl (by (repeat' (first | with_reducible exact AllP.nil | with_reducible refine AllP.mk ?_ ?_ | with_reducible apply And.intro)) <;> skip; (iterate 1 (all_goals try (first | exact (c_spec_l1In c 0 (IntKind.i64.wrap ((x.devices.length : Int) - 1))) | exact fun _ => (c_spec_l1In c 0 (IntKind.i64.wrap ((x.devices.length : Int) - 1))) | exact fun _ _ => (c_spec_l1In c 0 (IntKind.i64.wrap ((x.devices.length : Int) - 1)))))); all_goals (first | (intros; omega) | exact rfl | exact El_all _ (by decide) | exact ⟨rfl, El_all _ (by decide)⟩ | ((intro h1; first | (intro h2; first | (intro h3; refine And.intro ?_ ?_) | refine And.intro ?_ ?_) | refine And.intro ?_ ?_) <;> first | omega | ((try simp only [nb, inr_t, inr_f] at *); (try simp (disch := omega) only [i64w]); omega)) | ((try simp only [nb, inr_t, inr_f] at *); (simp (disch := omega) only [i64w]); omega) | (refine fun _ => ?_; dsimp only [hyps, imps]; omega) | (refine fun _ _ => ?_; dsimp only [hyps, imps]; omega) | exact (u8w _).1 | exact (u8w _).2 | exact (u8n _).1 | exact (u8n _).2 | (simp only [byt, maxLen, lens]; omega) | (intros; simp only [nb] at *; omega))) ?_
  refine W.ret ?_
  exact Fin.ret rfl ⟨by rw [i64w (by omega), ite_ff, pair_spec hd], ⟨⟩⟩
theorem c_impl_direction (c : Cli) : Sound ty Tryz.prog 142 [.agg (dec_Cli c)] [.a (.lit (.int .i64 (dirn c)))] := by
  refine Sound.of X Tryz.call142 Tryz.func142 rfl rfl (by decide) Tryz.ntmps142 (by simp) ?_
  intro zb
  refine W.seq ?_
  refine W.reg X [] [] [1] [] rfl ⟨⟩ ?_
  refine W.seq ?_
  refine W.seq ?_
  refine W.reg X [] [] [7] [] rfl ⟨⟩ ?_
  refine W.cond rfl (fun hb0 => ?_) (fun hb0 => ?_)
  · try simp only [nb, inr_t, inr_f, isEmpty_t] at hb0
    refine W.seq ?_
    refine W.reg X [] [] [2] [] rfl ⟨⟩ ?_
    refine W.ret ?_
    exact Fin.ret rfl ⟨by rw [dirn, if_pos hb0], ⟨⟩⟩
  · try simp only [nb, inr_t, inr_f, isEmpty_t] at hb0
    refine W.skip ?_
    refine W.seq ?_
    refine W.reg X [] [] [2] [] rfl ⟨⟩ ?_
    refine W.ret ?_
    exact Fin.ret rfl ⟨by rw [dirn, if_neg (by omega)], ⟨⟩⟩
theorem c_impl_messageCell (c : Cli) (a : Int) (h0 : 0 ≤ a) (h1 : a < c.submitted.length) : Sound ty Tryz.prog 143 [.agg (dec_Cli c), .a (.lit (.int .i64 a))] [.a (.sl .u8 (mcell c a))] := by
  refine Sound.of X Tryz.call143 Tryz.func143 rfl rfl (by decide) Tryz.ntmps143 (by simp) ?_
  intro zb
  refine W.seq ?_
  refine W.reg X [] [] [1, 2] [] rfl ⟨⟩ ?_
  refine W.seq ?_
  refine W.draw X [] [(11, ⟨false, [.a (.lit (.int .i64 (dirn c)))]⟩), (12, ⟨false, [.a (.lit (.int .i64 (dkey c.key (dirn c))))]⟩), (20, ⟨true, [.a (.sl .u8 (sealC (dkey c.key (dirn c)) a (⟨1, (c.submitted.getD (a).toNat (dfl (.sl .u8)))⟩ : Plain))), .a (.lit (.bool (sealOK (dkey c.key (dirn c)) a (⟨1, (c.submitted.getD (a).toNat (dfl (.sl .u8)))⟩ : Plain))))]⟩)] [5] [] 18 MO (by kernel_rfl) rfl (by (repeat' (first | with_reducible exact AllP.nil | with_reducible refine AllP.mk ?_ ?_ | with_reducible apply And.intro)) <;> skip; (iterate 3 (all_goals try (first | exact (c_impl_direction c) | exact fun _ => (c_impl_direction c) | exact fun _ _ => (c_impl_direction c) | exact (c_impl_DirectionKey c.key (dirn c)) | exact fun _ => (c_impl_DirectionKey c.key (dirn c)) | exact fun _ _ => (c_impl_DirectionKey c.key (dirn c)) | exact (c_impl_SealCell (dkey c.key (dirn c)) a (⟨1, (c.submitted.getD (a).toNat (dfl (.sl .u8)))⟩ : Plain)) | exact fun _ => (c_impl_SealCell (dkey c.key (dirn c)) a (⟨1, (c.submitted.getD (a).toNat (dfl (.sl .u8)))⟩ : Plain)) | exact fun _ _ => (c_impl_SealCell (dkey c.key (dirn c)) a (⟨1, (c.submitted.getD (a).toNat (dfl (.sl .u8)))⟩ : Plain))))); all_goals (first | (intros; omega) | exact rfl | exact El_all _ (by decide) | exact ⟨rfl, El_all _ (by decide)⟩ | ((intro h1; first | (intro h2; first | (intro h3; refine And.intro ?_ ?_) | refine And.intro ?_ ?_) | refine And.intro ?_ ?_) <;> first | omega | ((try simp only [nb, inr_t, inr_f] at *); (try simp (disch := omega) only [i64w]); omega)) | ((try simp only [nb, inr_t, inr_f] at *); (simp (disch := omega) only [i64w]); omega) | (refine fun _ => ?_; dsimp only [hyps, imps]; omega) | (refine fun _ _ => ?_; dsimp only [hyps, imps]; omega) | exact (u8w _).1 | exact (u8w _).2 | exact (u8n _).1 | exact (u8n _).2 | (simp only [byt, maxLen, lens]; omega) | (intros; simp only [nb] at *; omega))) ?_
  refine W.seq ?_
  refine W.reg X [] [] [4] [] rfl ⟨⟩ ?_
  refine W.ret ?_
  exact Fin.ret rfl ⟨rfl, ⟨⟩⟩
theorem c_impl_ClientWrite (c : Cli) (r n : Int) : Sound ty Tryz.prog 67 [.agg (dec_Cli c), .a (.lit (.int .i64 r)), .a (.lit (.int .i64 n))] [.a (.lit (.int .i64 (cwRow c r n))), .a (.sl .u8 (cwCell c r n)), .a (.lit (.bool (cwOK c r n)))] := by
  refine Sound.of X Tryz.call67 Tryz.func67 rfl rfl (by decide) Tryz.ntmps67 (by simp) ?_
  intro zb
  refine W.boundA 0 4 rfl rfl (fun hll => ?_)
  refine W.seq ?_
  refine W.reg X [] [] [1, 2, 3] [] rfl ⟨⟩ ?_
  refine W.seq ?_
  refine W.seq ?_
  refine W.reg X [] [(10, ⟨false, [.a (.lit (.bool (okCli c)))]⟩), (14, ⟨false, [.a (.lit (.bool (inr r 0 100000)))]⟩), (19, ⟨false, [.a (.lit (.bool (inr n 1 64)))]⟩)] [1, 2, 3, 21] [] rfl (by (repeat' (first | with_reducible exact AllP.nil | with_reducible refine AllP.mk ?_ ?_ | with_reducible apply And.intro)) <;> skip; (iterate 3 (all_goals try (first | exact (c_impl_IsValidClient c) | exact fun _ => (c_impl_IsValidClient c) | exact fun _ _ => (c_impl_IsValidClient c) | exact (c_impl_InRange r 0 100000) | exact fun _ => (c_impl_InRange r 0 100000) | exact fun _ _ => (c_impl_InRange r 0 100000) | exact (c_impl_InRange n 1 64) | exact fun _ => (c_impl_InRange n 1 64) | exact fun _ _ => (c_impl_InRange n 1 64)))); all_goals (first | (intros; omega) | exact rfl | exact El_all _ (by decide) | exact ⟨rfl, El_all _ (by decide)⟩ | ((intro h1; first | (intro h2; first | (intro h3; refine And.intro ?_ ?_) | refine And.intro ?_ ?_) | refine And.intro ?_ ?_) <;> first | omega | ((try simp only [nb, inr_t, inr_f] at *); (try simp (disch := omega) only [i64w]); omega)) | ((try simp only [nb, inr_t, inr_f] at *); (simp (disch := omega) only [i64w]); omega) | (refine fun _ => ?_; dsimp only [hyps, imps]; omega) | (refine fun _ _ => ?_; dsimp only [hyps, imps]; omega) | exact (u8w _).1 | exact (u8w _).2 | exact (u8n _).1 | exact (u8n _).2 | (simp only [byt, maxLen, lens]; omega) | (intros; simp only [nb] at *; omega))) ?_
  refine W.cond rfl (fun hb0 => ?_) (fun hb0 => ?_)
  · have hk : cwOK c r n = false := or_no1 hb0 (by simp only [cwOK, ite_tt, ite_ff, gt_iff_lt, ge_iff_le, not_dlt, not_dle, bne_not, deq, decide_not, ne_eq, Bool.not_and, Bool.not_or, Bool.not_not, Bool.and_true, Bool.true_and, Bool.or_false, Bool.false_or, Int.toNat_natCast] <;> first | rfl | ac_rfl)
    refine W.seq ?_
    refine W.reg X [] [] [6, 7, 8] [] rfl ⟨⟩ ?_
    refine W.ret ?_
    exact Fin.ret rfl ⟨by rw [cwRow, if_neg (by rw [hk]; decide)], by rw [cwCell, if_neg (by rw [hk]; decide)], by rw [hk], ⟨⟩⟩
  · have hk : cwOK c r n = true := or_yes hb0 (by simp only [cwOK, ite_tt, ite_ff, gt_iff_lt, ge_iff_le, not_dlt, not_dle, bne_not, deq, decide_not, ne_eq, Bool.not_and, Bool.not_or, Bool.not_not, Bool.and_true, Bool.true_and, Bool.or_false, Bool.false_or, Int.toNat_natCast] <;> first | rfl | ac_rfl)
    have hs := cwOK_sent hk
    refine W.skip ?_
    refine W.seq ?_
    refine W.seq ?_
    refine W.reg X [] [] [1, 2, 3, 27] [] rfl ⟨⟩ ?_
    refine W.cond rfl (fun hb1 => ?_) (fun hb1 => ?_)
    · try simp only [nb, inr_t, inr_f, isEmpty_t] at hb1
      refine W.seq ?_
      refine W.draw X [] [(32, ⟨false, [.a (.lit (.int .i64 (dirn c)))]⟩), (34, ⟨false, [.a (.lit (.int .i64 (mrow c.key r (dirn c) n)))]⟩), (38, ⟨true, [.a (.sl .u8 (mcell c c.sent))]⟩)] [6, 7, 8] [] 14 MO (by kernel_rfl) rfl (by (repeat' (first | with_reducible exact AllP.nil | with_reducible refine AllP.mk ?_ ?_ | with_reducible apply And.intro)) <;> skip; (iterate 3 (all_goals try (first | exact (c_impl_direction c) | exact fun _ => (c_impl_direction c) | exact fun _ _ => (c_impl_direction c) | exact (c_impl_MailboxRow c.key r (dirn c) n) | exact fun _ => (c_impl_MailboxRow c.key r (dirn c) n) | exact fun _ _ => (c_impl_MailboxRow c.key r (dirn c) n) | exact (c_impl_messageCell c c.sent (by first | assumption | omega | (simp; done) | (simp; omega)) (by first | assumption | omega | (simp; done) | (simp; omega))) | exact fun _ => (c_impl_messageCell c c.sent (by first | assumption | omega | (simp; done) | (simp; omega)) (by first | assumption | omega | (simp; done) | (simp; omega))) | exact fun _ _ => (c_impl_messageCell c c.sent (by first | assumption | omega | (simp; done) | (simp; omega)) (by first | assumption | omega | (simp; done) | (simp; omega)))))); all_goals (first | (intros; omega) | exact rfl | exact El_all _ (by decide) | exact ⟨rfl, El_all _ (by decide)⟩ | ((intro h1; first | (intro h2; first | (intro h3; refine And.intro ?_ ?_) | refine And.intro ?_ ?_) | refine And.intro ?_ ?_) <;> first | omega | ((try simp only [nb, inr_t, inr_f] at *); (try simp (disch := omega) only [i64w]); omega)) | ((try simp only [nb, inr_t, inr_f] at *); (simp (disch := omega) only [i64w]); omega) | (refine fun _ => ?_; dsimp only [hyps, imps]; omega) | (refine fun _ _ => ?_; dsimp only [hyps, imps]; omega) | exact (u8w _).1 | exact (u8w _).2 | exact (u8n _).1 | exact (u8n _).2 | (simp only [byt, maxLen, lens]; omega) | (intros; simp only [nb] at *; omega))) ?_
      refine W.ret ?_
      exact Fin.ret rfl ⟨by rw [cwRow, if_pos hk, if_pos hb1], by rw [cwCell, if_pos hk, if_pos hb1], by rw [hk], ⟨⟩⟩
    · try simp only [nb, inr_t, inr_f, isEmpty_t] at hb1
      refine W.skip ?_
      refine W.seq ?_
      refine W.draw X [] [(43, ⟨false, [.a (.lit (.int .i64 (crow c.seed r n)))]⟩), (48, ⟨false, [.a (.lit (.int .i64 (kh c.seed [r])))]⟩), (49, ⟨true, [.a (.sl .u8 (cover (kh c.seed [r])))]⟩)] [6, 7, 8] [] 14 MO (by kernel_rfl) rfl (by (repeat' (first | with_reducible exact AllP.nil | with_reducible refine AllP.mk ?_ ?_ | with_reducible apply And.intro)) <;> skip; (iterate 3 (all_goals try (first | exact (c_impl_CoverRow c.seed r n) | exact fun _ => (c_impl_CoverRow c.seed r n) | exact fun _ _ => (c_impl_CoverRow c.seed r n) | exact (c_impl_KeyedHash c.seed [r] (by first | assumption | omega | (simp; done) | (simp; omega))) | exact fun _ => (c_impl_KeyedHash c.seed [r] (by first | assumption | omega | (simp; done) | (simp; omega))) | exact fun _ _ => (c_impl_KeyedHash c.seed [r] (by first | assumption | omega | (simp; done) | (simp; omega))) | exact (c_impl_CoverCell (kh c.seed [r])) | exact fun _ => (c_impl_CoverCell (kh c.seed [r])) | exact fun _ _ => (c_impl_CoverCell (kh c.seed [r]))))); all_goals (first | (intros; omega) | exact rfl | exact El_all _ (by decide) | exact ⟨rfl, El_all _ (by decide)⟩ | ((intro h1; first | (intro h2; first | (intro h3; refine And.intro ?_ ?_) | refine And.intro ?_ ?_) | refine And.intro ?_ ?_) <;> first | omega | ((try simp only [nb, inr_t, inr_f] at *); (try simp (disch := omega) only [i64w]); omega)) | ((try simp only [nb, inr_t, inr_f] at *); (simp (disch := omega) only [i64w]); omega) | (refine fun _ => ?_; dsimp only [hyps, imps]; omega) | (refine fun _ _ => ?_; dsimp only [hyps, imps]; omega) | exact (u8w _).1 | exact (u8w _).2 | exact (u8n _).1 | exact (u8n _).2 | (simp only [byt, maxLen, lens]; omega) | (intros; simp only [nb] at *; omega))) ?_
      refine W.ret ?_
      exact Fin.ret rfl ⟨by rw [cwRow, if_pos hk, if_neg (by omega)], by rw [cwCell, if_pos hk, if_neg (by omega)], by rw [hk], ⟨⟩⟩
theorem c_impl_ReadRow (d : DB) (i : Int) (hs0 : lsz List.length d.rows ≤ 1048576) : Sound ty Tryz.prog 162 [.agg (dec_DB d), .a (.lit (.int .i64 i))] [.a (.sl .u8 (rowAt d i)), .a (.lit (.bool (rowOK d i)))] := by
  refine Sound.of X Tryz.call162 Tryz.func162 rfl rfl (by decide) Tryz.ntmps162 (by simp) ?_
  intro zb
  have hll : d.rows.length ≤ 1048576 := lsz_len hs0
  refine W.seq ?_
  refine W.reg X [] [] [1, 2] [] rfl ⟨⟩ ?_
  refine W.seq ?_
  refine W.seq ?_
  refine W.reg X [] [(11, ⟨false, [.a (.lit (.bool (inr i 0 (IntKind.i64.wrap ((d.rows.length : Int) - 1)))))]⟩)] [1, 2, 12] [] rfl (by (repeat' (first | with_reducible exact AllP.nil | with_reducible refine AllP.mk ?_ ?_ | with_reducible apply And.intro)) <;> skip; (iterate 1 (all_goals try (first | exact (c_impl_InRange i 0 (IntKind.i64.wrap ((d.rows.length : Int) - 1))) | exact fun _ => (c_impl_InRange i 0 (IntKind.i64.wrap ((d.rows.length : Int) - 1))) | exact fun _ _ => (c_impl_InRange i 0 (IntKind.i64.wrap ((d.rows.length : Int) - 1)))))); all_goals (first | (intros; omega) | exact rfl | exact El_all _ (by decide) | exact ⟨rfl, El_all _ (by decide)⟩ | ((intro h1; first | (intro h2; first | (intro h3; refine And.intro ?_ ?_) | refine And.intro ?_ ?_) | refine And.intro ?_ ?_) <;> first | omega | ((try simp only [nb, inr_t, inr_f] at *); (try simp (disch := omega) only [i64w]); omega)) | ((try simp only [nb, inr_t, inr_f] at *); (simp (disch := omega) only [i64w]); omega) | (refine fun _ => ?_; dsimp only [hyps, imps]; omega) | (refine fun _ _ => ?_; dsimp only [hyps, imps]; omega) | exact (u8w _).1 | exact (u8w _).2 | exact (u8n _).1 | exact (u8n _).2 | (simp only [byt, maxLen, lens]; omega) | (intros; simp only [nb] at *; omega))) ?_
  refine W.cond rfl (fun hb0 => ?_) (fun hb0 => ?_)
  · rw [i64w (by omega)] at hb0
    have hk : rowOK d i = false := or_no1 hb0 rfl
    refine W.seq ?_
    refine W.reg X [] [] [4, 5] [] rfl ⟨⟩ ?_
    refine W.ret ?_
    exact Fin.ret rfl ⟨by rw [rowAt, if_neg (by rw [hk]; decide)], by rw [hk], ⟨⟩⟩
  · rw [i64w (by omega)] at hb0
    have hk : rowOK d i = true := or_yes hb0 rfl
    have hk2 := hk
    simp only [rowOK, inr_t] at hk2
    have hel := lsz_el hs0 i.toNat (by omega)
    refine W.skip ?_
    refine W.seq ?_
    refine W.reg X [] [(18, ⟨true, [.a (.sl .u8 _)]⟩)] [4, 5] [] rfl (by (repeat' (first | with_reducible exact AllP.nil | with_reducible refine AllP.mk ?_ ?_ | with_reducible apply And.intro)) <;> skip; (iterate 1 (all_goals try (first | exact (c_slices_Clone_byte_byte _ (by first | assumption | omega | (simp; done) | (simp; omega))) | exact fun _ => (c_slices_Clone_byte_byte _ (by first | assumption | omega | (simp; done) | (simp; omega))) | exact fun _ _ => (c_slices_Clone_byte_byte _ (by first | assumption | omega | (simp; done) | (simp; omega)))))); all_goals (first | (intros; omega) | exact rfl | exact El_all _ (by decide) | exact ⟨rfl, El_all _ (by decide)⟩ | ((intro h1; first | (intro h2; first | (intro h3; refine And.intro ?_ ?_) | refine And.intro ?_ ?_) | refine And.intro ?_ ?_) <;> first | omega | ((try simp only [nb, inr_t, inr_f] at *); (try simp (disch := omega) only [i64w]); omega)) | ((try simp only [nb, inr_t, inr_f] at *); (simp (disch := omega) only [i64w]); omega) | (refine fun _ => ?_; dsimp only [hyps, imps]; omega) | (refine fun _ _ => ?_; dsimp only [hyps, imps]; omega) | exact (u8w _).1 | exact (u8w _).2 | exact (u8n _).1 | exact (u8n _).2 | (simp only [byt, maxLen, lens]; omega) | (intros; simp only [nb] at *; omega))) ?_
    refine W.ret ?_
    exact Fin.ret rfl ⟨by rw [rowAt, if_pos hk], by rw [hk], ⟨⟩⟩
theorem c_spec_l29Direction (c : Cli) : Sound ty Tryz.prog 126 [.agg (dec_Cli c)] [.a (.lit (.int .i64 (dirn c)))] := by
  refine Sound.of X Tryz.call126 Tryz.func126 rfl rfl (by decide) Tryz.ntmps126 (by simp) ?_
  intro zb
  refine W.seq ?_
  refine W.reg X [] [] [1] [] rfl ⟨⟩ ?_
  refine W.seq ?_
  refine W.seq ?_
  refine W.reg X [] [] [7] [] rfl ⟨⟩ ?_
  refine W.cond rfl (fun hb0 => ?_) (fun hb0 => ?_)
  · try simp only [nb, inr_t, inr_f, isEmpty_t] at hb0
    refine W.seq ?_
    refine W.reg X [] [] [2] [] rfl ⟨⟩ ?_
    refine W.ret ?_
    exact Fin.ret rfl ⟨by rw [dirn, if_pos hb0], ⟨⟩⟩
  · try simp only [nb, inr_t, inr_f, isEmpty_t] at hb0
    refine W.skip ?_
    refine W.seq ?_
    refine W.reg X [] [] [2] [] rfl ⟨⟩ ?_
    refine W.ret ?_
    exact Fin.ret rfl ⟨by rw [dirn, if_neg (by omega)], ⟨⟩⟩
theorem c_spec_l29Cell (c : Cli) (h0 : 0 ≤ c.sent) (h1 : c.sent < c.submitted.length) : Sound ty Tryz.prog 127 [.agg (dec_Cli c)] [.a (.sl .u8 (mcell c c.sent))] := by
  refine Sound.of X Tryz.call127 Tryz.func127 rfl rfl (by decide) Tryz.ntmps127 (by simp) ?_
  intro zb
  refine W.seq ?_
  refine W.reg X [] [] [1] [] rfl ⟨⟩ ?_
  refine W.seq ?_
  refine W.draw X [] [(9, ⟨false, [.a (.lit (.int .i64 (dirn c)))]⟩), (10, ⟨false, [.a (.lit (.int .i64 (dkey c.key (dirn c))))]⟩), (20, ⟨true, [.a (.sl .u8 (sealC (dkey c.key (dirn c)) c.sent (⟨1, (c.submitted.getD (c.sent).toNat (dfl (.sl .u8)))⟩ : Plain))), .a (.lit (.bool (sealOK (dkey c.key (dirn c)) c.sent (⟨1, (c.submitted.getD (c.sent).toNat (dfl (.sl .u8)))⟩ : Plain))))]⟩)] [3] [] 20 MO (by kernel_rfl) rfl (by (repeat' (first | with_reducible exact AllP.nil | with_reducible refine AllP.mk ?_ ?_ | with_reducible apply And.intro)) <;> skip; (iterate 3 (all_goals try (first | exact (c_spec_l29Direction c) | exact fun _ => (c_spec_l29Direction c) | exact fun _ _ => (c_spec_l29Direction c) | exact (c_spec_DirectionKey c.key (dirn c)) | exact fun _ => (c_spec_DirectionKey c.key (dirn c)) | exact fun _ _ => (c_spec_DirectionKey c.key (dirn c)) | exact (c_spec_SealCell (dkey c.key (dirn c)) c.sent (⟨1, (c.submitted.getD (c.sent).toNat (dfl (.sl .u8)))⟩ : Plain)) | exact fun _ => (c_spec_SealCell (dkey c.key (dirn c)) c.sent (⟨1, (c.submitted.getD (c.sent).toNat (dfl (.sl .u8)))⟩ : Plain)) | exact fun _ _ => (c_spec_SealCell (dkey c.key (dirn c)) c.sent (⟨1, (c.submitted.getD (c.sent).toNat (dfl (.sl .u8)))⟩ : Plain))))); all_goals (first | (intros; omega) | exact rfl | exact El_all _ (by decide) | exact ⟨rfl, El_all _ (by decide)⟩ | ((intro h1; first | (intro h2; first | (intro h3; refine And.intro ?_ ?_) | refine And.intro ?_ ?_) | refine And.intro ?_ ?_) <;> first | omega | ((try simp only [nb, inr_t, inr_f] at *); (try simp (disch := omega) only [i64w]); omega)) | ((try simp only [nb, inr_t, inr_f] at *); (simp (disch := omega) only [i64w]); omega) | (refine fun _ => ?_; dsimp only [hyps, imps]; omega) | (refine fun _ _ => ?_; dsimp only [hyps, imps]; omega) | exact (u8w _).1 | exact (u8w _).2 | exact (u8n _).1 | exact (u8n _).2 | (simp only [byt, maxLen, lens]; omega) | (intros; simp only [nb] at *; omega))) ?_
  refine W.seq ?_
  refine W.reg X [] [] [2] [] rfl ⟨⟩ ?_
  refine W.ret ?_
  exact Fin.ret rfl ⟨rfl, ⟨⟩⟩
theorem c_spec_ClientWrite (c : Cli) (r n : Int) : Sound ty Tryz.prog 61 [.agg (dec_Cli c), .a (.lit (.int .i64 r)), .a (.lit (.int .i64 n))] [.a (.lit (.int .i64 (cwRow c r n))), .a (.sl .u8 (cwCell c r n)), .a (.lit (.bool (cwOK c r n)))] := by
  refine Sound.of X Tryz.call61 Tryz.func61 rfl rfl (by decide) Tryz.ntmps61 (by simp) ?_
  intro zb
  refine W.boundA 0 4 rfl rfl (fun hll => ?_)
  refine W.seq ?_
  refine W.reg X [] [] [1, 2, 3] [] rfl ⟨⟩ ?_
  refine W.seq ?_
  refine W.seq ?_
  refine W.reg X [] [(10, ⟨false, [.a (.lit (.bool (okCli c)))]⟩), (14, ⟨false, [.a (.lit (.bool (inr r 0 100000)))]⟩), (19, ⟨false, [.a (.lit (.bool (inr n 1 64)))]⟩)] [1, 2, 3, 21] [] rfl (by (repeat' (first | with_reducible exact AllP.nil | with_reducible refine AllP.mk ?_ ?_ | with_reducible apply And.intro)) <;> skip; (iterate 3 (all_goals try (first | exact (c_spec_IsValidClient c) | exact fun _ => (c_spec_IsValidClient c) | exact fun _ _ => (c_spec_IsValidClient c) | exact (c_spec_l1In r 0 100000) | exact fun _ => (c_spec_l1In r 0 100000) | exact fun _ _ => (c_spec_l1In r 0 100000) | exact (c_spec_l1In n 1 64) | exact fun _ => (c_spec_l1In n 1 64) | exact fun _ _ => (c_spec_l1In n 1 64)))); all_goals (first | (intros; omega) | exact rfl | exact El_all _ (by decide) | exact ⟨rfl, El_all _ (by decide)⟩ | ((intro h1; first | (intro h2; first | (intro h3; refine And.intro ?_ ?_) | refine And.intro ?_ ?_) | refine And.intro ?_ ?_) <;> first | omega | ((try simp only [nb, inr_t, inr_f] at *); (try simp (disch := omega) only [i64w]); omega)) | ((try simp only [nb, inr_t, inr_f] at *); (simp (disch := omega) only [i64w]); omega) | (refine fun _ => ?_; dsimp only [hyps, imps]; omega) | (refine fun _ _ => ?_; dsimp only [hyps, imps]; omega) | exact (u8w _).1 | exact (u8w _).2 | exact (u8n _).1 | exact (u8n _).2 | (simp only [byt, maxLen, lens]; omega) | (intros; simp only [nb] at *; omega))) ?_
  refine W.cond rfl (fun hb0 => ?_) (fun hb0 => ?_)
  · have hk : cwOK c r n = false := or_no1 hb0 (by simp only [cwOK, ite_tt, ite_ff, gt_iff_lt, ge_iff_le, not_dlt, not_dle, bne_not, deq, decide_not, ne_eq, Bool.not_and, Bool.not_or, Bool.not_not, Bool.and_true, Bool.true_and, Bool.or_false, Bool.false_or, Int.toNat_natCast] <;> first | rfl | ac_rfl)
    refine W.seq ?_
    refine W.reg X [] [] [6, 7, 8] [] rfl (by (repeat' (first | exact True.intro | apply And.intro)) <;> first | (intros; omega) | exact rfl | exact El_all _ (by decide) | exact ⟨rfl, El_all _ (by decide)⟩ | ((intro h1; first | (intro h2; first | (intro h3; refine And.intro ?_ ?_) | refine And.intro ?_ ?_) | refine And.intro ?_ ?_) <;> first | omega | ((try simp only [nb, inr_t, inr_f] at *); (try simp (disch := omega) only [i64w]); omega)) | ((try simp only [nb, inr_t, inr_f] at *); (simp (disch := omega) only [i64w]); omega) | (refine fun _ => ?_; dsimp only [hyps, imps]; omega) | (refine fun _ _ => ?_; dsimp only [hyps, imps]; omega) | exact (u8w _).1 | exact (u8w _).2 | exact (u8n _).1 | exact (u8n _).2 | (simp only [byt, maxLen, lens]; omega) | (intros; simp only [nb] at *; omega)) ?_
    refine W.ret ?_
    exact Fin.ret rfl ⟨by rw [cwRow, if_neg (by rw [hk]; decide)], by rw [cwCell, if_neg (by rw [hk]; decide)], by rw [hk], ⟨⟩⟩
  · have hk : cwOK c r n = true := or_yes hb0 (by simp only [cwOK, ite_tt, ite_ff, gt_iff_lt, ge_iff_le, not_dlt, not_dle, bne_not, deq, decide_not, ne_eq, Bool.not_and, Bool.not_or, Bool.not_not, Bool.and_true, Bool.true_and, Bool.or_false, Bool.false_or, Int.toNat_natCast] <;> first | rfl | ac_rfl)
    have hs := cwOK_sent hk
    refine W.skip ?_
    refine W.seq ?_
    refine W.seq ?_
    refine W.reg X [] [] [1, 2, 3, 28] [] rfl ⟨⟩ ?_
    refine W.cond rfl (fun hb1 => ?_) (fun hb1 => ?_)
    · try simp only [nb, inr_t, inr_f, isEmpty_t] at hb1
      refine W.seq ?_
      refine W.draw X [] [(33, ⟨false, [.a (.lit (.int .i64 (dirn c)))]⟩), (35, ⟨false, [.a (.lit (.int .i64 (mrow c.key r (dirn c) n)))]⟩), (37, ⟨true, [.a (.sl .u8 (mcell c c.sent))]⟩)] [6, 7, 8] [] 12 MO (by kernel_rfl) rfl (by (repeat' (first | with_reducible exact AllP.nil | with_reducible refine AllP.mk ?_ ?_ | with_reducible apply And.intro)) <;> skip; (iterate 3 (all_goals try (first | exact (c_spec_l29Direction c) | exact fun _ => (c_spec_l29Direction c) | exact fun _ _ => (c_spec_l29Direction c) | exact (c_spec_MailboxRow c.key r (dirn c) n) | exact fun _ => (c_spec_MailboxRow c.key r (dirn c) n) | exact fun _ _ => (c_spec_MailboxRow c.key r (dirn c) n) | exact (c_spec_l29Cell c (by first | assumption | omega | (simp; done) | (simp; omega)) (by first | assumption | omega | (simp; done) | (simp; omega))) | exact fun _ => (c_spec_l29Cell c (by first | assumption | omega | (simp; done) | (simp; omega)) (by first | assumption | omega | (simp; done) | (simp; omega))) | exact fun _ _ => (c_spec_l29Cell c (by first | assumption | omega | (simp; done) | (simp; omega)) (by first | assumption | omega | (simp; done) | (simp; omega)))))); all_goals (first | (intros; omega) | exact rfl | exact El_all _ (by decide) | exact ⟨rfl, El_all _ (by decide)⟩ | ((intro h1; first | (intro h2; first | (intro h3; refine And.intro ?_ ?_) | refine And.intro ?_ ?_) | refine And.intro ?_ ?_) <;> first | omega | ((try simp only [nb, inr_t, inr_f] at *); (try simp (disch := omega) only [i64w]); omega)) | ((try simp only [nb, inr_t, inr_f] at *); (simp (disch := omega) only [i64w]); omega) | (refine fun _ => ?_; dsimp only [hyps, imps]; omega) | (refine fun _ _ => ?_; dsimp only [hyps, imps]; omega) | exact (u8w _).1 | exact (u8w _).2 | exact (u8n _).1 | exact (u8n _).2 | (simp only [byt, maxLen, lens]; omega) | (intros; simp only [nb] at *; omega))) ?_
      refine W.ret ?_
      exact Fin.ret rfl ⟨by rw [cwRow, if_pos hk, if_pos hb1], by rw [cwCell, if_pos hk, if_pos hb1], by rw [hk], ⟨⟩⟩
    · try simp only [nb, inr_t, inr_f, isEmpty_t] at hb1
      refine W.skip ?_
      refine W.seq ?_
      refine W.draw X [] [(42, ⟨false, [.a (.lit (.int .i64 (crow c.seed r n)))]⟩), (47, ⟨false, [.a (.lit (.int .i64 (kh c.seed [r])))]⟩), (48, ⟨true, [.a (.sl .u8 (cover (kh c.seed [r])))]⟩)] [6, 7, 8] [] 14 MO (by kernel_rfl) rfl (by (repeat' (first | with_reducible exact AllP.nil | with_reducible refine AllP.mk ?_ ?_ | with_reducible apply And.intro)) <;> skip; (iterate 3 (all_goals try (first | exact (c_spec_CoverRow c.seed r n) | exact fun _ => (c_spec_CoverRow c.seed r n) | exact fun _ _ => (c_spec_CoverRow c.seed r n) | exact (c_spec_KeyedHash c.seed [r] (by first | assumption | omega | (simp; done) | (simp; omega))) | exact fun _ => (c_spec_KeyedHash c.seed [r] (by first | assumption | omega | (simp; done) | (simp; omega))) | exact fun _ _ => (c_spec_KeyedHash c.seed [r] (by first | assumption | omega | (simp; done) | (simp; omega))) | exact (c_spec_CoverCell (kh c.seed [r])) | exact fun _ => (c_spec_CoverCell (kh c.seed [r])) | exact fun _ _ => (c_spec_CoverCell (kh c.seed [r]))))); all_goals (first | (intros; omega) | exact rfl | exact El_all _ (by decide) | exact ⟨rfl, El_all _ (by decide)⟩ | ((intro h1; first | (intro h2; first | (intro h3; refine And.intro ?_ ?_) | refine And.intro ?_ ?_) | refine And.intro ?_ ?_) <;> first | omega | ((try simp only [nb, inr_t, inr_f] at *); (try simp (disch := omega) only [i64w]); omega)) | ((try simp only [nb, inr_t, inr_f] at *); (simp (disch := omega) only [i64w]); omega) | (refine fun _ => ?_; dsimp only [hyps, imps]; omega) | (refine fun _ _ => ?_; dsimp only [hyps, imps]; omega) | exact (u8w _).1 | exact (u8w _).2 | exact (u8n _).1 | exact (u8n _).2 | (simp only [byt, maxLen, lens]; omega) | (intros; simp only [nb] at *; omega))) ?_
      refine W.ret ?_
      exact Fin.ret rfl ⟨by rw [cwRow, if_pos hk, if_neg (by omega)], by rw [cwCell, if_pos hk, if_neg (by omega)], by rw [hk], ⟨⟩⟩
theorem c_spec_ReadRow (d : DB) (i : Int) (hs0 : lsz List.length d.rows ≤ 1048576) : Sound ty Tryz.prog 156 [.agg (dec_DB d), .a (.lit (.int .i64 i))] [.a (.sl .u8 (rowAt d i)), .a (.lit (.bool (rowOK d i)))] := by
  refine Sound.of X Tryz.call156 Tryz.func156 rfl rfl (by decide) Tryz.ntmps156 (by simp) ?_
  intro zb
  have hll : d.rows.length ≤ 1048576 := lsz_len hs0
  refine W.seq ?_
  refine W.reg X [] [] [1, 2] [] rfl ⟨⟩ ?_
  refine W.seq ?_
  refine W.seq ?_
  refine W.reg X [] [(11, ⟨false, [.a (.lit (.bool (inr i 0 (IntKind.i64.wrap ((d.rows.length : Int) - 1)))))]⟩)] [1, 2, 12] [] rfl (by (repeat' (first | with_reducible exact AllP.nil | with_reducible refine AllP.mk ?_ ?_ | with_reducible apply And.intro)) <;> skip; (iterate 1 (all_goals try (first | exact (c_spec_l1In i 0 (IntKind.i64.wrap ((d.rows.length : Int) - 1))) | exact fun _ => (c_spec_l1In i 0 (IntKind.i64.wrap ((d.rows.length : Int) - 1))) | exact fun _ _ => (c_spec_l1In i 0 (IntKind.i64.wrap ((d.rows.length : Int) - 1)))))); all_goals (first | (intros; omega) | exact rfl | exact El_all _ (by decide) | exact ⟨rfl, El_all _ (by decide)⟩ | ((intro h1; first | (intro h2; first | (intro h3; refine And.intro ?_ ?_) | refine And.intro ?_ ?_) | refine And.intro ?_ ?_) <;> first | omega | ((try simp only [nb, inr_t, inr_f] at *); (try simp (disch := omega) only [i64w]); omega)) | ((try simp only [nb, inr_t, inr_f] at *); (simp (disch := omega) only [i64w]); omega) | (refine fun _ => ?_; dsimp only [hyps, imps]; omega) | (refine fun _ _ => ?_; dsimp only [hyps, imps]; omega) | exact (u8w _).1 | exact (u8w _).2 | exact (u8n _).1 | exact (u8n _).2 | (simp only [byt, maxLen, lens]; omega) | (intros; simp only [nb] at *; omega))) ?_
  refine W.cond rfl (fun hb0 => ?_) (fun hb0 => ?_)
  · rw [i64w (by omega)] at hb0
    have hk : rowOK d i = false := or_no1 hb0 rfl
    refine W.seq ?_
    refine W.reg X [] [] [4, 5] [] rfl (by (repeat' (first | exact True.intro | apply And.intro)) <;> first | (intros; omega) | exact rfl | exact El_all _ (by decide) | exact ⟨rfl, El_all _ (by decide)⟩ | ((intro h1; first | (intro h2; first | (intro h3; refine And.intro ?_ ?_) | refine And.intro ?_ ?_) | refine And.intro ?_ ?_) <;> first | omega | ((try simp only [nb, inr_t, inr_f] at *); (try simp (disch := omega) only [i64w]); omega)) | ((try simp only [nb, inr_t, inr_f] at *); (simp (disch := omega) only [i64w]); omega) | (refine fun _ => ?_; dsimp only [hyps, imps]; omega) | (refine fun _ _ => ?_; dsimp only [hyps, imps]; omega) | exact (u8w _).1 | exact (u8w _).2 | exact (u8n _).1 | exact (u8n _).2 | (simp only [byt, maxLen, lens]; omega) | (intros; simp only [nb] at *; omega)) ?_
    refine W.ret ?_
    exact Fin.ret rfl ⟨by rw [rowAt, if_neg (by rw [hk]; decide)], by rw [hk], ⟨⟩⟩
  · rw [i64w (by omega)] at hb0
    have hk : rowOK d i = true := or_yes hb0 rfl
    have hk2 := hk
    simp only [rowOK, inr_t] at hk2
    have hel := lsz_el hs0 i.toNat (by omega)
    refine W.skip ?_
    refine W.seq ?_
    refine W.reg X [(20, 14)] [] [4, 5] [] rfl (by (repeat' (first | exact True.intro | apply And.intro)) <;> first | (intros; omega) | exact rfl | exact El_all _ (by decide) | exact ⟨rfl, El_all _ (by decide)⟩ | ((intro h1; first | (intro h2; first | (intro h3; refine And.intro ?_ ?_) | refine And.intro ?_ ?_) | refine And.intro ?_ ?_) <;> first | omega | ((try simp only [nb, inr_t, inr_f] at *); (try simp (disch := omega) only [i64w]); omega)) | ((try simp only [nb, inr_t, inr_f] at *); (simp (disch := omega) only [i64w]); omega) | (refine fun _ => ?_; dsimp only [hyps, imps]; omega) | (refine fun _ _ => ?_; dsimp only [hyps, imps]; omega) | exact (u8w _).1 | exact (u8w _).2 | exact (u8n _).1 | exact (u8n _).2 | (simp only [byt, maxLen, lens]; omega) | (intros; simp only [nb] at *; omega)) ?_
    refine W.ret ?_
    exact Fin.ret rfl ⟨by rw [rowAt, if_pos hk]; rfl, by rw [hk], ⟨⟩⟩
end Go.Proofs.YtlocnjfgeifmnaaGreat.G
namespace Go.Proofs.YtlocnjfgeifmnaaGreat.G
set_option linter.all false
open Go.RowKit L D
set_option maxRecDepth 100000
theorem c_impl_IsSelection_1 (x : Int) : Sound ty Tryz.prog 237 [.a (.lit (.int .i64 x))] [.a (.lit (.bool (!inr x 0 1)))] := by
  refine Sound.of X Tryz.call237 Tryz.func237 rfl rfl (by decide) Tryz.ntmps237 (by simp) ?_
  intro zb
  refine W.seq ?_
  refine W.reg X [] [] [0] [] rfl ⟨⟩ ?_
  refine W.seq ?_
  refine W.reg X [] [(4, ⟨false, [.a (.lit (.bool _))]⟩)] [2] [] rfl (by (repeat' (first | with_reducible exact AllP.nil | with_reducible refine AllP.mk ?_ ?_ | with_reducible apply And.intro)) <;> skip; (iterate 1 (all_goals try (first | exact (c_impl_InRange _ _ _) | exact fun _ => (c_impl_InRange _ _ _) | exact fun _ _ => (c_impl_InRange _ _ _)))); all_goals (first | (intros; omega) | exact rfl | exact El_all _ (by decide) | exact ⟨rfl, El_all _ (by decide)⟩ | ((intro h1; first | (intro h2; first | (intro h3; refine And.intro ?_ ?_) | refine And.intro ?_ ?_) | refine And.intro ?_ ?_) <;> first | omega | ((try simp only [nb, inr_t, inr_f] at *); (try simp (disch := omega) only [i64w]); omega)) | ((try simp only [nb, inr_t, inr_f] at *); (simp (disch := omega) only [i64w]); omega) | (refine fun _ => ?_; dsimp only [hyps, imps]; omega) | (refine fun _ _ => ?_; dsimp only [hyps, imps]; omega) | exact (u8w _).1 | exact (u8w _).2 | exact (u8n _).1 | exact (u8n _).2 | (simp only [byt, maxLen, lens]; omega) | (intros; simp only [nb] at *; omega))) ?_
  refine W.ret ?_
  exact Fin.ret rfl ⟨rfl, ⟨⟩⟩
theorem c_impl_IsSelection (v : List Int) (rows : Int) : Sound ty Tryz.prog 167 [.a (.sl .int v), .a (.lit (.int .i64 rows))] [.a (.lit (.bool (isSel v rows)))] := by
  refine Sound.of X Tryz.call167 Tryz.func167 rfl rfl (by decide) Tryz.ntmps167 (by simp) ?_
  intro zb
  refine W.seq ?_
  refine W.reg X [] [] [0, 1] [] rfl ⟨⟩ ?_
  refine W.seq ?_
  refine W.reg X [] [(6, ⟨false, [.a (.lit (.bool (inr rows 0 64)))]⟩), (15, ⟨false, [.a (.lit (.bool (v.any fun x => !inr x 0 1)))]⟩)] [4] [] rfl (by (repeat' (first | with_reducible exact AllP.nil | with_reducible refine AllP.mk ?_ ?_ | with_reducible apply And.intro)) <;> skip; (iterate 2 (all_goals try (first | exact (c_impl_InRange rows 0 64) | exact fun _ => (c_impl_InRange rows 0 64) | exact fun _ _ => (c_impl_InRange rows 0 64) | exact (c_slices_ContainsFunc_int_int _ _ _ c_impl_IsSelection_1) | exact fun _ => (c_slices_ContainsFunc_int_int _ _ _ c_impl_IsSelection_1) | exact fun _ _ => (c_slices_ContainsFunc_int_int _ _ _ c_impl_IsSelection_1)))); all_goals (first | (intros; omega) | exact rfl | exact El_all _ (by decide) | exact ⟨rfl, El_all _ (by decide)⟩ | ((intro h1; first | (intro h2; first | (intro h3; refine And.intro ?_ ?_) | refine And.intro ?_ ?_) | refine And.intro ?_ ?_) <;> first | omega | ((try simp only [nb, inr_t, inr_f] at *); (try simp (disch := omega) only [i64w]); omega)) | ((try simp only [nb, inr_t, inr_f] at *); (simp (disch := omega) only [i64w]); omega) | (refine fun _ => ?_; dsimp only [hyps, imps]; omega) | (refine fun _ _ => ?_; dsimp only [hyps, imps]; omega) | exact (u8w _).1 | exact (u8w _).2 | exact (u8n _).1 | exact (u8n _).2 | (simp only [byt, maxLen, lens]; omega) | (intros; simp only [nb] at *; omega))) ?_
  refine W.ret ?_
  exact Fin.ret rfl ⟨by rw [isSel_impl]; exact (congrArg Value.bool (by simp only [ite_tt, ite_ff, gt_iff_lt, ge_iff_le, not_dlt, not_dle, bne_not, deq, decide_not, ne_eq, Bool.not_and, Bool.not_or, Bool.not_not, Bool.and_true, Bool.true_and, Bool.or_false, Bool.false_or, Int.toNat_natCast] <;> first | rfl | ac_rfl)), ⟨⟩⟩
theorem c_spec_IsSelection (v : List Int) (rows : Int) : Sound ty Tryz.prog 165 [.a (.sl .int v), .a (.lit (.int .i64 rows))] [.a (.lit (.bool (isSel v rows)))] := by
  refine Sound.of X Tryz.call165 Tryz.func165 rfl rfl (by decide) Tryz.ntmps165 (by simp) ?_
  intro zb
  refine W.bound 0 rfl (fun hll => ?_)
  refine W.seq ?_
  refine W.reg X [] [] [0, 1] [] rfl ⟨⟩ ?_
  refine W.seq ?_
  refine W.seq ?_
  refine W.reg X [] [] [0, 1, 5] [] rfl ⟨⟩ ?_
  refine W.block ?_
  refine W.loopO (fun k => k ≤ v.length ∧ (v.take k).all (fun x => inr x 0 1) = true) (fun k : Nat => [(5, .one (.a (.lit (.int .i64 k))))]) (fun k => []) (fun k => v.length - k) 0 (fun k => rfl) ⟨Nat.zero_le _, rfl⟩ rfl ?_
  rintro k ⟨hk, hall⟩
  refine W.seq ?_
  refine W.seq ?_
  refine W.reg X [] [] [0, 1, 5, 9] [] rfl ⟨⟩ ?_
  refine W.cond rfl (fun hb0 => ?_) (fun hb0 => ?_)
  · try simp only [nb, inr_t, inr_f, isEmpty_t] at hb0
    refine W.skip ?_
    refine W.seq ?_
    refine W.block ?_
    refine W.seq ?_
    refine W.reg X [] [(16, ⟨false, [.a (.lit (.bool (inr (v.getD k (dfl .int)) 0 1)))]⟩)] [0, 1, 5, 17] [] rfl (by (repeat' (first | with_reducible exact AllP.nil | with_reducible refine AllP.mk ?_ ?_ | with_reducible apply And.intro)) <;> skip; (iterate 1 (all_goals try (first | exact (c_spec_l1In (v.getD k (dfl .int)) 0 1) | exact fun _ => (c_spec_l1In (v.getD k (dfl .int)) 0 1) | exact fun _ _ => (c_spec_l1In (v.getD k (dfl .int)) 0 1)))); all_goals (first | (intros; omega) | exact rfl | exact El_all _ (by decide) | exact ⟨rfl, El_all _ (by decide)⟩ | ((intro h1; first | (intro h2; first | (intro h3; refine And.intro ?_ ?_) | refine And.intro ?_ ?_) | refine And.intro ?_ ?_) <;> first | omega | ((try simp only [nb, inr_t, inr_f] at *); (try simp (disch := omega) only [i64w]); omega)) | ((try simp only [nb, inr_t, inr_f] at *); (simp (disch := omega) only [i64w]); omega) | (refine fun _ => ?_; dsimp only [hyps, imps]; omega) | (refine fun _ _ => ?_; dsimp only [hyps, imps]; omega) | exact (u8w _).1 | exact (u8w _).2 | exact (u8n _).1 | exact (u8n _).2 | (simp only [byt, maxLen, lens]; omega) | (intros; simp only [nb] at *; omega))) ?_
    refine W.cond rfl (fun hb1 => ?_) (fun hb1 => ?_)
    · skip
      refine W.seq ?_
      refine W.reg X [] [] [4] [] rfl ⟨⟩ ?_
      refine W.ret ?_
      exact Fin.ret rfl ⟨by rw [isSel, all_no _ _ (dfl .int) k hb0 (by simpa using hb1)]; simp, ⟨⟩⟩
    · skip
      refine W.skip ?_
      refine W.reg X [] [] [0, 1, 5] [] rfl ⟨⟩ ?_
      refine ⟨k + 1, ⟨by omega, by rw [all_snoc _ _ _ (dfl .int) hb0, hall]; simpa using hb1⟩, by omega, ?_⟩
      rw [wadd _ k rfl (by omega)]
      try rfl
  · try simp only [nb, inr_t, inr_f, isEmpty_t] at hb0
    refine W.exit ?_
    refine W.seq ?_
    refine W.reg X [] [] [4] [] rfl ⟨⟩ ?_
    refine W.ret ?_
    exact Fin.ret rfl ⟨by rw [List.take_of_length_le hb0] at hall; rw [isSel, hall]; exact (congrArg Value.bool (by simp only [ite_tt, ite_ff, gt_iff_lt, ge_iff_le, not_dlt, not_dle, bne_not, deq, decide_not, ne_eq, Bool.not_and, Bool.not_or, Bool.not_not, Bool.and_true, Bool.true_and, Bool.or_false, Bool.false_or, Int.toNat_natCast] <;> first | rfl | ac_rfl)), ⟨⟩⟩
theorem c_impl_RandomSelection (sd rows : Int) : Sound ty Tryz.prog 151 [.a (.lit (.int .i64 sd)), .a (.lit (.int .i64 rows))] [.a (.sl .int (randSel sd rows))] := by
  refine Sound.of X Tryz.call151 Tryz.func151 rfl rfl (by decide) Tryz.ntmps151 (by simp) ?_
  intro zb
  refine W.seq ?_
  refine W.reg X [] [] [0, 1] [] rfl ⟨⟩ ?_
  refine W.seq ?_
  refine W.seq ?_
  refine W.reg X [] [(9, ⟨false, [.a (.lit (.bool (inr rows 0 64)))]⟩)] [0, 1, 10] [] rfl (by (repeat' (first | with_reducible exact AllP.nil | with_reducible refine AllP.mk ?_ ?_ | with_reducible apply And.intro)) <;> skip; (iterate 1 (all_goals try (first | exact (c_impl_InRange rows 0 64) | exact fun _ => (c_impl_InRange rows 0 64) | exact fun _ _ => (c_impl_InRange rows 0 64)))); all_goals (first | (intros; omega) | exact rfl | exact El_all _ (by decide) | exact ⟨rfl, El_all _ (by decide)⟩ | ((intro h1; first | (intro h2; first | (intro h3; refine And.intro ?_ ?_) | refine And.intro ?_ ?_) | refine And.intro ?_ ?_) <;> first | omega | ((try simp only [nb, inr_t, inr_f] at *); (try simp (disch := omega) only [i64w]); omega)) | ((try simp only [nb, inr_t, inr_f] at *); (simp (disch := omega) only [i64w]); omega) | (refine fun _ => ?_; dsimp only [hyps, imps]; omega) | (refine fun _ _ => ?_; dsimp only [hyps, imps]; omega) | exact (u8w _).1 | exact (u8w _).2 | exact (u8n _).1 | exact (u8n _).2 | (simp only [byt, maxLen, lens]; omega) | (intros; simp only [nb] at *; omega))) ?_
  refine W.cond rfl (fun hb0 => ?_) (fun hb0 => ?_)
  · try simp only [nb, inr_t, inr_f, isEmpty_t] at hb0
    refine W.seq ?_
    refine W.reg X [] [] [4] [] rfl ⟨⟩ ?_
    refine W.ret ?_
    exact Fin.ret rfl ⟨by rw [randSel, if_neg (by omega)], ⟨⟩⟩
  · try simp only [nb, inr_t, inr_f, isEmpty_t] at hb0
    refine W.skip ?_
    refine W.seq ?_
    refine W.reg X [] [] [0, 1, 5] [] rfl (by (repeat' (first | exact True.intro | apply And.intro)) <;> first | (intros; omega) | exact rfl | exact El_all _ (by decide) | exact ⟨rfl, El_all _ (by decide)⟩ | ((intro h1; first | (intro h2; first | (intro h3; refine And.intro ?_ ?_) | refine And.intro ?_ ?_) | refine And.intro ?_ ?_) <;> first | omega | ((try simp only [nb, inr_t, inr_f] at *); (try simp (disch := omega) only [i64w]); omega)) | ((try simp only [nb, inr_t, inr_f] at *); (simp (disch := omega) only [i64w]); omega) | (refine fun _ => ?_; dsimp only [hyps, imps]; omega) | (refine fun _ _ => ?_; dsimp only [hyps, imps]; omega) | exact (u8w _).1 | exact (u8w _).2 | exact (u8n _).1 | exact (u8n _).2 | (simp only [byt, maxLen, lens]; omega) | (intros; simp only [nb] at *; omega)) ?_
    refine W.seq ?_
    refine W.seq ?_
    refine W.reg X [] [] [0, 5, 12, 13] [] rfl ⟨⟩ ?_
    refine W.block ?_
    refine W.loopO (fun k => k ≤ rows.toNat) (fun k : Nat => [(13, .one (.a (.lit (.int .i64 k))))]) (fun k => [(11, .arr .int ((randSel sd rows).take k))]) (fun k => rows.toNat - k) 0 (fun k => rfl) (Nat.zero_le _) rfl ?_
    intro k hk
    have hle := take_le_len (randSel sd rows) k
    have hrl := randSel_len sd rows
    refine W.seq ?_
    refine W.reg X [] [] [0, 5, 12, 13, 14] [] rfl ⟨⟩ ?_
    refine W.seq ?_
    refine W.cond rfl (fun hb1 => ?_) (fun hb1 => ?_)
    · try simp only [nb, inr_t, inr_f, isEmpty_t] at hb1
      have hs := randSel_step sd rows k (by omega) (by omega)
      refine W.skip ?_
      refine W.seq ?_
      refine W.block ?_
      refine W.seq ?_
      refine W.reg X [] [] [0, 5, 6, 12, 13] [] rfl ⟨⟩ ?_
      refine W.seq ?_
      refine W.reg X [] [(19, ⟨false, [.a (.lit (.int .i64 (kh sd [(k : Int), 41])))]⟩)] [0, 5, 7, 12, 13] [] rfl (by (repeat' (first | with_reducible exact AllP.nil | with_reducible refine AllP.mk ?_ ?_ | with_reducible apply And.intro)) <;> skip; (iterate 1 (all_goals try (first | exact (c_impl_KeyedHash sd [(k : Int), 41] (by first | assumption | omega | (simp; done) | (simp; omega))) | exact fun _ => (c_impl_KeyedHash sd [(k : Int), 41] (by first | assumption | omega | (simp; done) | (simp; omega))) | exact fun _ _ => (c_impl_KeyedHash sd [(k : Int), 41] (by first | assumption | omega | (simp; done) | (simp; omega)))))); all_goals (first | (intros; omega) | exact rfl | exact El_all _ (by decide) | exact ⟨rfl, El_all _ (by decide)⟩ | ((intro h1; first | (intro h2; first | (intro h3; refine And.intro ?_ ?_) | refine And.intro ?_ ?_) | refine And.intro ?_ ?_) <;> first | omega | ((try simp only [nb, inr_t, inr_f] at *); (try simp (disch := omega) only [i64w]); omega)) | ((try simp only [nb, inr_t, inr_f] at *); (simp (disch := omega) only [i64w]); omega) | (refine fun _ => ?_; dsimp only [hyps, imps]; omega) | (refine fun _ _ => ?_; dsimp only [hyps, imps]; omega) | exact (u8w _).1 | exact (u8w _).2 | exact (u8n _).1 | exact (u8n _).2 | (simp only [byt, maxLen, lens]; omega) | (intros; simp only [nb] at *; omega))) ?_
      refine W.reg X [(28, 11)] [] [0, 5, 12, 13] [] rfl (by (repeat' (first | exact True.intro | apply And.intro)) <;> first | (intros; omega) | exact rfl | exact El_all _ (by decide) | exact ⟨rfl, El_all _ (by decide)⟩ | ((intro h1; first | (intro h2; first | (intro h3; refine And.intro ?_ ?_) | refine And.intro ?_ ?_) | refine And.intro ?_ ?_) <;> first | omega | ((try simp only [nb, inr_t, inr_f] at *); (try simp (disch := omega) only [i64w]); omega)) | ((try simp only [nb, inr_t, inr_f] at *); (simp (disch := omega) only [i64w]); omega) | (refine fun _ => ?_; dsimp only [hyps, imps]; omega) | (refine fun _ _ => ?_; dsimp only [hyps, imps]; omega) | exact (u8w _).1 | exact (u8w _).2 | exact (u8n _).1 | exact (u8n _).2 | (simp only [byt, maxLen, lens]; omega) | (intros; simp only [nb] at *; omega)) ?_
      refine W.reg X [] [] [0, 5, 12, 13] [] rfl ⟨⟩ ?_
      refine ⟨k + 1, by omega, by omega, ?_⟩
      rw [wadd _ k rfl (by omega), hs]
      try rfl
    · try simp only [nb, inr_t, inr_f, isEmpty_t] at hb1
      refine W.exit ?_
      refine W.seq ?_
      refine W.reg X [] [] [4] [] rfl ⟨⟩ ?_
      refine W.ret ?_
      exact Fin.ret rfl ⟨by rw [randSel_end _ _ _ (by omega)], ⟨⟩⟩
theorem c_impl_UnitSelection (rows i : Int) : Sound ty Tryz.prog 150 [.a (.lit (.int .i64 rows)), .a (.lit (.int .i64 i))] [.a (.sl .int (unitS rows i))] := by
  refine Sound.of X Tryz.call150 Tryz.func150 rfl rfl (by decide) Tryz.ntmps150 (by simp) ?_
  intro zb
  refine W.seq ?_
  refine W.reg X [] [] [0, 1] [] rfl ⟨⟩ ?_
  refine W.seq ?_
  refine W.seq ?_
  refine W.reg X [] [(7, ⟨false, [.a (.lit (.bool (inr rows 1 64)))]⟩), (13, ⟨false, [.a (.lit (.bool (inr i 0 (IntKind.i64.wrap (rows - 1)))))]⟩)] [0, 1, 15] [] rfl (by (repeat' (first | with_reducible exact AllP.nil | with_reducible refine AllP.mk ?_ ?_ | with_reducible apply And.intro)) <;> skip; (iterate 2 (all_goals try (first | exact (c_impl_InRange rows 1 64) | exact fun _ => (c_impl_InRange rows 1 64) | exact fun _ _ => (c_impl_InRange rows 1 64) | exact (c_impl_InRange i 0 (IntKind.i64.wrap (rows - 1))) | exact fun _ => (c_impl_InRange i 0 (IntKind.i64.wrap (rows - 1))) | exact fun _ _ => (c_impl_InRange i 0 (IntKind.i64.wrap (rows - 1)))))); all_goals (first | (intros; omega) | exact rfl | exact El_all _ (by decide) | exact ⟨rfl, El_all _ (by decide)⟩ | ((intro h1; first | (intro h2; first | (intro h3; refine And.intro ?_ ?_) | refine And.intro ?_ ?_) | refine And.intro ?_ ?_) <;> first | omega | ((try simp only [nb, inr_t, inr_f] at *); (try simp (disch := omega) only [i64w]); omega)) | ((try simp only [nb, inr_t, inr_f] at *); (simp (disch := omega) only [i64w]); omega) | (refine fun _ => ?_; dsimp only [hyps, imps]; omega) | (refine fun _ _ => ?_; dsimp only [hyps, imps]; omega) | exact (u8w _).1 | exact (u8w _).2 | exact (u8n _).1 | exact (u8n _).2 | (simp only [byt, maxLen, lens]; omega) | (intros; simp only [nb] at *; omega))) ?_
  refine W.cond rfl (fun hb0 => ?_) (fun hb0 => ?_)
  · have hk : unitOK rows i = false := or_no1 hb0 (by simp only [unitOK, ite_tt, ite_ff, gt_iff_lt, ge_iff_le, not_dlt, not_dle, bne_not, deq, decide_not, ne_eq, Bool.not_and, Bool.not_or, Bool.not_not, Bool.and_true, Bool.true_and, Bool.or_false, Bool.false_or, Int.toNat_natCast] <;> first | rfl | ac_rfl)
    refine W.seq ?_
    refine W.reg X [] [] [4] [] rfl ⟨⟩ ?_
    refine W.ret ?_
    exact Fin.ret rfl ⟨by rw [unitS_neg hk], ⟨⟩⟩
  · have hk : unitOK rows i = true := or_yes hb0 (by simp only [unitOK, ite_tt, ite_ff, gt_iff_lt, ge_iff_le, not_dlt, not_dle, bne_not, deq, decide_not, ne_eq, Bool.not_and, Bool.not_or, Bool.not_not, Bool.and_true, Bool.true_and, Bool.or_false, Bool.false_or, Int.toNat_natCast] <;> first | rfl | ac_rfl)
    have hu := unitOK_b hk
    refine W.skip ?_
    refine W.seq ?_
    refine W.reg X [] [] [1, 5] [] rfl (by (repeat' (first | exact True.intro | apply And.intro)) <;> first | (intros; omega) | exact rfl | exact El_all _ (by decide) | exact ⟨rfl, El_all _ (by decide)⟩ | ((intro h1; first | (intro h2; first | (intro h3; refine And.intro ?_ ?_) | refine And.intro ?_ ?_) | refine And.intro ?_ ?_) <;> first | omega | ((try simp only [nb, inr_t, inr_f] at *); (try simp (disch := omega) only [i64w]); omega)) | ((try simp only [nb, inr_t, inr_f] at *); (simp (disch := omega) only [i64w]); omega) | (refine fun _ => ?_; dsimp only [hyps, imps]; omega) | (refine fun _ _ => ?_; dsimp only [hyps, imps]; omega) | exact (u8w _).1 | exact (u8w _).2 | exact (u8n _).1 | exact (u8n _).2 | (simp only [byt, maxLen, lens]; omega) | (intros; simp only [nb] at *; omega)) ?_
    refine W.seq ?_
    refine W.reg X [] [] [5] [] rfl (by (repeat' (first | exact True.intro | apply And.intro)) <;> first | (intros; omega) | exact rfl | exact El_all _ (by decide) | exact ⟨rfl, El_all _ (by decide)⟩ | ((intro h1; first | (intro h2; first | (intro h3; refine And.intro ?_ ?_) | refine And.intro ?_ ?_) | refine And.intro ?_ ?_) <;> first | omega | ((try simp only [nb, inr_t, inr_f] at *); (try simp (disch := omega) only [i64w]); omega)) | ((try simp only [nb, inr_t, inr_f] at *); (simp (disch := omega) only [i64w]); omega) | (refine fun _ => ?_; dsimp only [hyps, imps]; omega) | (refine fun _ _ => ?_; dsimp only [hyps, imps]; omega) | exact (u8w _).1 | exact (u8w _).2 | exact (u8n _).1 | exact (u8n _).2 | (simp only [byt, maxLen, lens]; omega) | (intros; simp only [nb] at *; omega)) ?_
    refine W.seq ?_
    refine W.reg X [] [] [4] [] rfl ⟨⟩ ?_
    refine W.ret ?_
    exact Fin.ret rfl ⟨by rw [unitS_pos hk], ⟨⟩⟩
theorem c_impl_XorSelections (a b : List Int) (ha : a.length ≤ 1048576) (hb : b.length ≤ 1048576) : Sound ty Tryz.prog 152 [.a (.sl .int a), .a (.sl .int b)] [.a (.sl .int (xorSel a b))] := by
  refine Sound.of X Tryz.call152 Tryz.func152 rfl rfl (by decide) Tryz.ntmps152 (by simp) ?_
  intro zb
  refine W.seq ?_
  refine W.reg X [] [] [0, 1] [] rfl ⟨⟩ ?_
  refine W.seq ?_
  refine W.seq ?_
  refine W.reg X [] [(11, ⟨false, [.a (.lit (.bool (isSel a (a.length : Int))))]⟩), (17, ⟨false, [.a (.lit (.bool (isSel b (a.length : Int))))]⟩)] [0, 1, 19] [] rfl (by (repeat' (first | with_reducible exact AllP.nil | with_reducible refine AllP.mk ?_ ?_ | with_reducible apply And.intro)) <;> skip; (iterate 2 (all_goals try (first | exact (c_impl_IsSelection a (a.length : Int)) | exact fun _ => (c_impl_IsSelection a (a.length : Int)) | exact fun _ _ => (c_impl_IsSelection a (a.length : Int)) | exact (c_impl_IsSelection b (a.length : Int)) | exact fun _ => (c_impl_IsSelection b (a.length : Int)) | exact fun _ _ => (c_impl_IsSelection b (a.length : Int))))); all_goals (first | (intros; omega) | exact rfl | exact El_all _ (by decide) | exact ⟨rfl, El_all _ (by decide)⟩ | ((intro h1; first | (intro h2; first | (intro h3; refine And.intro ?_ ?_) | refine And.intro ?_ ?_) | refine And.intro ?_ ?_) <;> first | omega | ((try simp only [nb, inr_t, inr_f] at *); (try simp (disch := omega) only [i64w]); omega)) | ((try simp only [nb, inr_t, inr_f] at *); (simp (disch := omega) only [i64w]); omega) | (refine fun _ => ?_; dsimp only [hyps, imps]; omega) | (refine fun _ _ => ?_; dsimp only [hyps, imps]; omega) | exact (u8w _).1 | exact (u8w _).2 | exact (u8n _).1 | exact (u8n _).2 | (simp only [byt, maxLen, lens]; omega) | (intros; simp only [nb] at *; omega))) ?_
  refine W.cond rfl (fun hb0 => ?_) (fun hb0 => ?_)
  · have hxk : xorOK a b = false := or_no1 hb0 (by simp only [xorOK, ite_tt, ite_ff, gt_iff_lt, ge_iff_le, not_dlt, not_dle, bne_not, deq, decide_not, ne_eq, Bool.not_and, Bool.not_or, Bool.not_not, Bool.and_true, Bool.true_and, Bool.or_false, Bool.false_or, Int.toNat_natCast] <;> first | rfl | ac_rfl)
    refine W.seq ?_
    refine W.reg X [] [] [4] [] rfl ⟨⟩ ?_
    refine W.ret ?_
    exact Fin.ret rfl ⟨by rw [xorSel, if_neg (by rw [hxk]; decide)], ⟨⟩⟩
  · have hxk : xorOK a b = true := or_yes hb0 (by simp only [xorOK, ite_tt, ite_ff, gt_iff_lt, ge_iff_le, not_dlt, not_dle, bne_not, deq, decide_not, ne_eq, Bool.not_and, Bool.not_or, Bool.not_not, Bool.and_true, Bool.true_and, Bool.or_false, Bool.false_or, Int.toNat_natCast] <;> first | rfl | ac_rfl)
    have hkl := xorOK_len hxk
    have hzl := zip_len hxk
    refine W.skip ?_
    refine W.seq ?_
    refine W.reg X [] [(21, ⟨true, [.a (.sl .int _)]⟩)] [1, 5] [] rfl (by (repeat' (first | with_reducible exact AllP.nil | with_reducible refine AllP.mk ?_ ?_ | with_reducible apply And.intro)) <;> skip; (iterate 1 (all_goals try (first | exact (c_slices_Clone_int_int _ (by first | assumption | omega | (simp; done) | (simp; omega))) | exact fun _ => (c_slices_Clone_int_int _ (by first | assumption | omega | (simp; done) | (simp; omega))) | exact fun _ _ => (c_slices_Clone_int_int _ (by first | assumption | omega | (simp; done) | (simp; omega)))))); all_goals (first | (intros; omega) | exact rfl | exact El_all _ (by decide) | exact ⟨rfl, El_all _ (by decide)⟩ | ((intro h1; first | (intro h2; first | (intro h3; refine And.intro ?_ ?_) | refine And.intro ?_ ?_) | refine And.intro ?_ ?_) <;> first | omega | ((try simp only [nb, inr_t, inr_f] at *); (try simp (disch := omega) only [i64w]); omega)) | ((try simp only [nb, inr_t, inr_f] at *); (simp (disch := omega) only [i64w]); omega) | (refine fun _ => ?_; dsimp only [hyps, imps]; omega) | (refine fun _ _ => ?_; dsimp only [hyps, imps]; omega) | exact (u8w _).1 | exact (u8w _).2 | exact (u8n _).1 | exact (u8n _).2 | (simp only [byt, maxLen, lens]; omega) | (intros; simp only [nb] at *; omega))) ?_
    refine W.seq ?_
    refine W.seq ?_
    refine W.reg X [] [] [5, 22, 23, 24] [] rfl ⟨⟩ ?_
    refine W.block ?_
    refine W.loopO (fun k => k ≤ b.length) (fun k : Nat => [(24, .one (.a (.lit (.int .i64 k))))]) (fun k => [(21, .arr .int ((List.zipWith xb a b).take k ++ a.drop k))]) (fun k => b.length - k) 0 (fun k => rfl) (Nat.zero_le _) rfl ?_
    intro k hk
    have hle := part_len (List.zipWith xb a b) a k hzl (by omega)
    refine W.seq ?_
    refine W.reg X [] [] [5, 22, 23, 24, 25] [] rfl ⟨⟩ ?_
    refine W.seq ?_
    refine W.cond rfl (fun hb1 => ?_) (fun hb1 => ?_)
    · try simp only [nb, inr_t, inr_f, isEmpty_t] at hb1
      have hs := xorSel_impl hxk k hb1
      refine W.skip ?_
      refine W.seq ?_
      refine W.block ?_
      refine W.seq ?_
      refine W.reg X [] [] [5, 6, 7, 22, 23, 24] [] rfl (by (repeat' (first | exact True.intro | apply And.intro)) <;> first | (intros; omega) | exact rfl | exact El_all _ (by decide) | exact ⟨rfl, El_all _ (by decide)⟩ | ((intro h1; first | (intro h2; first | (intro h3; refine And.intro ?_ ?_) | refine And.intro ?_ ?_) | refine And.intro ?_ ?_) <;> first | omega | ((try simp only [nb, inr_t, inr_f] at *); (try simp (disch := omega) only [i64w]); omega)) | ((try simp only [nb, inr_t, inr_f] at *); (simp (disch := omega) only [i64w]); omega) | (refine fun _ => ?_; dsimp only [hyps, imps]; omega) | (refine fun _ _ => ?_; dsimp only [hyps, imps]; omega) | exact (u8w _).1 | exact (u8w _).2 | exact (u8n _).1 | exact (u8n _).2 | (simp only [byt, maxLen, lens]; omega) | (intros; simp only [nb] at *; omega)) ?_
      refine W.reg X [] [] [5, 22, 23, 24] [] rfl (by (repeat' (first | exact True.intro | apply And.intro)) <;> first | (intros; omega) | exact rfl | exact El_all _ (by decide) | exact ⟨rfl, El_all _ (by decide)⟩ | ((intro h1; first | (intro h2; first | (intro h3; refine And.intro ?_ ?_) | refine And.intro ?_ ?_) | refine And.intro ?_ ?_) <;> first | omega | ((try simp only [nb, inr_t, inr_f] at *); (try simp (disch := omega) only [i64w]); omega)) | ((try simp only [nb, inr_t, inr_f] at *); (simp (disch := omega) only [i64w]); omega) | (refine fun _ => ?_; dsimp only [hyps, imps]; omega) | (refine fun _ _ => ?_; dsimp only [hyps, imps]; omega) | exact (u8w _).1 | exact (u8w _).2 | exact (u8n _).1 | exact (u8n _).2 | (simp only [byt, maxLen, lens]; omega) | (intros; simp only [nb] at *; omega)) ?_
      refine W.reg X [] [] [5, 22, 23, 24] [] rfl ⟨⟩ ?_
      refine ⟨k + 1, by omega, by omega, ?_⟩
      rw [wadd _ k rfl (by omega), hs]
      try rfl
    · try simp only [nb, inr_t, inr_f, isEmpty_t] at hb1
      refine W.exit ?_
      refine W.seq ?_
      refine W.reg X [] [] [4] [] rfl ⟨⟩ ?_
      refine W.ret ?_
      exact Fin.ret rfl ⟨by rw [inplace_done _ _ _ hzl (by omega), xorSel_pos hxk], ⟨⟩⟩
theorem c_impl_MakeQuery (rows i : Int) (sd : List Int) (hsl : sd.length ≤ 1048576) : Sound ty Tryz.prog 74 [.a (.lit (.int .i64 rows)), .a (.lit (.int .i64 i)), .a (.sl .int sd)] [.a (.sl (.sl .int) (makeQ rows i sd))] := by
  refine Sound.of X Tryz.call74 Tryz.func74 rfl rfl (by decide) Tryz.ntmps74 (by simp) ?_
  intro zb
  have hun := unitS_len rows i
  refine W.seq ?_
  refine W.reg X [] [] [0, 1, 2] [] rfl ⟨⟩ ?_
  refine W.seq ?_
  refine W.reg X [] [(14, ⟨true, [.a (.sl .int _)]⟩)] [0, 2, 7] [] rfl (by (repeat' (first | with_reducible exact AllP.nil | with_reducible refine AllP.mk ?_ ?_ | with_reducible apply And.intro)) <;> skip; (iterate 1 (all_goals try (first | exact (c_impl_UnitSelection _ _) | exact fun _ => (c_impl_UnitSelection _ _) | exact fun _ _ => (c_impl_UnitSelection _ _)))); all_goals (first | (intros; omega) | exact rfl | exact El_all _ (by decide) | exact ⟨rfl, El_all _ (by decide)⟩ | ((intro h1; first | (intro h2; first | (intro h3; refine And.intro ?_ ?_) | refine And.intro ?_ ?_) | refine And.intro ?_ ?_) <;> first | omega | ((try simp only [nb, inr_t, inr_f] at *); (try simp (disch := omega) only [i64w]); omega)) | ((try simp only [nb, inr_t, inr_f] at *); (simp (disch := omega) only [i64w]); omega) | (refine fun _ => ?_; dsimp only [hyps, imps]; omega) | (refine fun _ _ => ?_; dsimp only [hyps, imps]; omega) | exact (u8w _).1 | exact (u8w _).2 | exact (u8n _).1 | exact (u8n _).2 | (simp only [byt, maxLen, lens]; omega) | (intros; simp only [nb] at *; omega))) ?_
  refine W.seq ?_
  refine W.seq ?_
  refine W.reg X [] [(22, ⟨false, [.a (.lit (.bool (srvCnt (IntKind.i64.wrap ((sd.length : Int) + 1)))))]⟩)] [0, 2, 7, 24] [] rfl (by (repeat' (first | with_reducible exact AllP.nil | with_reducible refine AllP.mk ?_ ?_ | with_reducible apply And.intro)) <;> skip; (iterate 1 (all_goals try (first | exact (c_impl_isServerCount (IntKind.i64.wrap ((sd.length : Int) + 1))) | exact fun _ => (c_impl_isServerCount (IntKind.i64.wrap ((sd.length : Int) + 1))) | exact fun _ _ => (c_impl_isServerCount (IntKind.i64.wrap ((sd.length : Int) + 1)))))); all_goals (first | (intros; omega) | exact rfl | exact El_all _ (by decide) | exact ⟨rfl, El_all _ (by decide)⟩ | ((intro h1; first | (intro h2; first | (intro h3; refine And.intro ?_ ?_) | refine And.intro ?_ ?_) | refine And.intro ?_ ?_) <;> first | omega | ((try simp only [nb, inr_t, inr_f] at *); (try simp (disch := omega) only [i64w]); omega)) | ((try simp only [nb, inr_t, inr_f] at *); (simp (disch := omega) only [i64w]); omega) | (refine fun _ => ?_; dsimp only [hyps, imps]; omega) | (refine fun _ _ => ?_; dsimp only [hyps, imps]; omega) | exact (u8w _).1 | exact (u8w _).2 | exact (u8n _).1 | exact (u8n _).2 | (simp only [byt, maxLen, lens]; omega) | (intros; simp only [nb] at *; omega))) ?_
  refine W.cond rfl (fun hb0 => ?_) (fun hb0 => ?_)
  · have hmk : mkOK rows i sd = false := or_no1 hb0 (by simp only [mkOK, ite_tt, ite_ff, gt_iff_lt, ge_iff_le, not_dlt, not_dle, bne_not, deq, decide_not, ne_eq, Bool.not_and, Bool.not_or, Bool.not_not, Bool.and_true, Bool.true_and, Bool.or_false, Bool.false_or, Int.toNat_natCast] <;> first | rfl | ac_rfl)
    refine W.seq ?_
    refine W.reg X [] [] [6] [] rfl ⟨⟩ ?_
    refine W.ret ?_
    exact Fin.ret rfl ⟨by rw [makeQ, if_neg (by rw [hmk]; decide)], ⟨⟩⟩
  · have hmk : mkOK rows i sd = true := or_yes hb0 (by simp only [mkOK, ite_tt, ite_ff, gt_iff_lt, ge_iff_le, not_dlt, not_dle, bne_not, deq, decide_not, ne_eq, Bool.not_and, Bool.not_or, Bool.not_not, Bool.and_true, Bool.true_and, Bool.or_false, Bool.false_or, Int.toNat_natCast] <;> first | rfl | ac_rfl)
    have hkl := mkOK_len hmk hsl
    refine W.skip ?_
    refine W.seq ?_
    refine W.reg X [] [] [0, 2, 7, 8] [] rfl (by (repeat' (first | exact True.intro | apply And.intro)) <;> first | (intros; omega) | exact rfl | exact El_all _ (by decide) | exact ⟨rfl, El_all _ (by decide)⟩ | ((intro h1; first | (intro h2; first | (intro h3; refine And.intro ?_ ?_) | refine And.intro ?_ ?_) | refine And.intro ?_ ?_) <;> first | omega | ((try simp only [nb, inr_t, inr_f] at *); (try simp (disch := omega) only [i64w]); omega)) | ((try simp only [nb, inr_t, inr_f] at *); (simp (disch := omega) only [i64w]); omega) | (refine fun _ => ?_; dsimp only [hyps, imps]; omega) | (refine fun _ _ => ?_; dsimp only [hyps, imps]; omega) | exact (u8w _).1 | exact (u8w _).2 | exact (u8n _).1 | exact (u8n _).2 | (simp only [byt, maxLen, lens]; omega) | (intros; simp only [nb] at *; omega)) ?_
    refine W.seq ?_
    refine W.seq ?_
    refine W.reg X [] [] [0, 7, 8, 26, 27, 28] [] rfl ⟨⟩ ?_
    refine W.block ?_
    refine W.loopO (fun k => k ≤ sd.length) (fun k : Nat => [(28, .one (.a (.lit (.int .i64 k))))]) (fun k => [(25, .arr (.sl .int) ((sd.take k).map fun s => randSel s rows)), (14, .arr .int (lastQ rows i (sd.take k)))]) (fun k => sd.length - k) 0 (fun k => rfl) (Nat.zero_le _) rfl ?_
    intro k hk
    have hle := take_le_len sd k
    have hql := lastQ_len rows i (sd.take k)
    refine W.seq ?_
    refine W.reg X [] [] [0, 7, 8, 26, 27, 28, 29] [] rfl ⟨⟩ ?_
    refine W.seq ?_
    refine W.cond rfl (fun hb1 => ?_) (fun hb1 => ?_)
    · try simp only [nb, inr_t, inr_f, isEmpty_t] at hb1
      have hs := map_snoc (fun s => randSel s rows) sd k (dfl .int) hb1
      have hs2 := lastQ_step rows i sd k hb1
      have hrl := randSel_len (sd.getD k (dfl .int)) rows
      refine W.skip ?_
      refine W.seq ?_
      refine W.block ?_
      refine W.seq ?_
      refine W.reg X [] [] [0, 7, 8, 10, 26, 27, 28] [] rfl (by (repeat' (first | exact True.intro | apply And.intro)) <;> first | (intros; omega) | exact rfl | exact El_all _ (by decide) | exact ⟨rfl, El_all _ (by decide)⟩ | ((intro h1; first | (intro h2; first | (intro h3; refine And.intro ?_ ?_) | refine And.intro ?_ ?_) | refine And.intro ?_ ?_) <;> first | omega | ((try simp only [nb, inr_t, inr_f] at *); (try simp (disch := omega) only [i64w]); omega)) | ((try simp only [nb, inr_t, inr_f] at *); (simp (disch := omega) only [i64w]); omega) | (refine fun _ => ?_; dsimp only [hyps, imps]; omega) | (refine fun _ _ => ?_; dsimp only [hyps, imps]; omega) | exact (u8w _).1 | exact (u8w _).2 | exact (u8n _).1 | exact (u8n _).2 | (simp only [byt, maxLen, lens]; omega) | (intros; simp only [nb] at *; omega)) ?_
      refine W.seq ?_
      refine W.reg X [] [(34, ⟨true, [.a (.sl .int (randSel (sd.getD k (dfl .int)) rows))]⟩)] [0, 7, 8, 11, 26, 27, 28] [] rfl (by (repeat' (first | with_reducible exact AllP.nil | with_reducible refine AllP.mk ?_ ?_ | with_reducible apply And.intro)) <;> skip; (iterate 1 (all_goals try (first | exact (c_impl_RandomSelection (sd.getD k (dfl .int)) rows) | exact fun _ => (c_impl_RandomSelection (sd.getD k (dfl .int)) rows) | exact fun _ _ => (c_impl_RandomSelection (sd.getD k (dfl .int)) rows)))); all_goals (first | (intros; omega) | exact rfl | exact El_all _ (by decide) | exact ⟨rfl, El_all _ (by decide)⟩ | ((intro h1; first | (intro h2; first | (intro h3; refine And.intro ?_ ?_) | refine And.intro ?_ ?_) | refine And.intro ?_ ?_) <;> first | omega | ((try simp only [nb, inr_t, inr_f] at *); (try simp (disch := omega) only [i64w]); omega)) | ((try simp only [nb, inr_t, inr_f] at *); (simp (disch := omega) only [i64w]); omega) | (refine fun _ => ?_; dsimp only [hyps, imps]; omega) | (refine fun _ _ => ?_; dsimp only [hyps, imps]; omega) | exact (u8w _).1 | exact (u8w _).2 | exact (u8n _).1 | exact (u8n _).2 | (simp only [byt, maxLen, lens]; omega) | (intros; simp only [nb] at *; omega))) ?_
      refine W.seq ?_
      refine W.regK X [(38, 25)] [] [0, 7, 8, 11, 26, 27, 28] 2 25 rfl (by (repeat' (first | exact True.intro | apply And.intro)) <;> first | (intros; omega) | exact rfl | exact El_all _ (by decide) | exact ⟨rfl, El_all _ (by decide)⟩ | ((intro h1; first | (intro h2; first | (intro h3; refine And.intro ?_ ?_) | refine And.intro ?_ ?_) | refine And.intro ?_ ?_) <;> first | omega | ((try simp only [nb, inr_t, inr_f] at *); (try simp (disch := omega) only [i64w]); omega)) | ((try simp only [nb, inr_t, inr_f] at *); (simp (disch := omega) only [i64w]); omega) | (refine fun _ => ?_; dsimp only [hyps, imps]; omega) | (refine fun _ _ => ?_; dsimp only [hyps, imps]; omega) | exact (u8w _).1 | exact (u8w _).2 | exact (u8n _).1 | exact (u8n _).2 | (simp only [byt, maxLen, lens]; omega) | (intros; simp only [nb] at *; omega)) ?_
      refine W.reg X [] [(41, ⟨true, [.a (.sl .int (xorSel (lastQ rows i (sd.take k)) (randSel (sd.getD k (dfl .int)) rows)))]⟩)] [0, 7, 8, 26, 27, 28] [] rfl (by (repeat' (first | with_reducible exact AllP.nil | with_reducible refine AllP.mk ?_ ?_ | with_reducible apply And.intro)) <;> skip; (iterate 1 (all_goals try (first | exact (c_impl_XorSelections (lastQ rows i (sd.take k)) (randSel (sd.getD k (dfl .int)) rows) (by first | assumption | omega | (simp; done) | (simp; omega)) (by first | assumption | omega | (simp; done) | (simp; omega))) | exact fun _ => (c_impl_XorSelections (lastQ rows i (sd.take k)) (randSel (sd.getD k (dfl .int)) rows) (by first | assumption | omega | (simp; done) | (simp; omega)) (by first | assumption | omega | (simp; done) | (simp; omega))) | exact fun _ _ => (c_impl_XorSelections (lastQ rows i (sd.take k)) (randSel (sd.getD k (dfl .int)) rows) (by first | assumption | omega | (simp; done) | (simp; omega)) (by first | assumption | omega | (simp; done) | (simp; omega)))))); all_goals (first | (intros; omega) | exact rfl | exact El_all _ (by decide) | exact ⟨rfl, El_all _ (by decide)⟩ | ((intro h1; first | (intro h2; first | (intro h3; refine And.intro ?_ ?_) | refine And.intro ?_ ?_) | refine And.intro ?_ ?_) <;> first | omega | ((try simp only [nb, inr_t, inr_f] at *); (try simp (disch := omega) only [i64w]); omega)) | ((try simp only [nb, inr_t, inr_f] at *); (simp (disch := omega) only [i64w]); omega) | (refine fun _ => ?_; dsimp only [hyps, imps]; omega) | (refine fun _ _ => ?_; dsimp only [hyps, imps]; omega) | exact (u8w _).1 | exact (u8w _).2 | exact (u8n _).1 | exact (u8n _).2 | (simp only [byt, maxLen, lens]; omega) | (intros; simp only [nb] at *; omega))) ?_
      refine W.rename 7 14 rfl ?_
      refine W.reg X [] [] [0, 7, 8, 26, 27, 28] [] rfl ⟨⟩ ?_
      refine ⟨k + 1, by omega, by omega, ?_⟩
      rw [wadd _ k rfl (by omega), hs, hs2]
      try rfl
    · try simp only [nb, inr_t, inr_f, isEmpty_t] at hb1
      refine W.exit ?_
      refine W.seq ?_
      refine W.reg X [(46, 25)] [] [6] [] rfl (by (repeat' (first | exact True.intro | apply And.intro)) <;> first | (intros; omega) | exact rfl | exact El_all _ (by decide) | exact ⟨rfl, El_all _ (by decide)⟩ | ((intro h1; first | (intro h2; first | (intro h3; refine And.intro ?_ ?_) | refine And.intro ?_ ?_) | refine And.intro ?_ ?_) <;> first | omega | ((try simp only [nb, inr_t, inr_f] at *); (try simp (disch := omega) only [i64w]); omega)) | ((try simp only [nb, inr_t, inr_f] at *); (simp (disch := omega) only [i64w]); omega) | (refine fun _ => ?_; dsimp only [hyps, imps]; omega) | (refine fun _ _ => ?_; dsimp only [hyps, imps]; omega) | exact (u8w _).1 | exact (u8w _).2 | exact (u8n _).1 | exact (u8n _).2 | (simp only [byt, maxLen, lens]; omega) | (intros; simp only [nb] at *; omega)) ?_
      refine W.ret ?_
      exact Fin.ret rfl ⟨by rw [List.take_of_length_le hb1, makeQ, if_pos hmk], ⟨⟩⟩
theorem c_spec_RandomSelection (sd rows : Int) : Sound ty Tryz.prog 232 [.a (.lit (.int .i64 sd)), .a (.lit (.int .i64 rows))] [.a (.sl .int (randSel sd rows))] := by
  refine Sound.of X Tryz.call232 Tryz.func232 rfl rfl (by decide) Tryz.ntmps232 (by simp) ?_
  intro zb
  refine W.seq ?_
  refine W.reg X [] [] [0, 1] [] rfl ⟨⟩ ?_
  refine W.seq ?_
  refine W.reg X [] [] [0, 1, 5] [] rfl (by (repeat' (first | exact True.intro | apply And.intro)) <;> first | (intros; omega) | exact rfl | exact El_all _ (by decide) | exact ⟨rfl, El_all _ (by decide)⟩ | ((intro h1; first | (intro h2; first | (intro h3; refine And.intro ?_ ?_) | refine And.intro ?_ ?_) | refine And.intro ?_ ?_) <;> first | omega | ((try simp only [nb, inr_t, inr_f] at *); (try simp (disch := omega) only [i64w]); omega)) | ((try simp only [nb, inr_t, inr_f] at *); (simp (disch := omega) only [i64w]); omega) | (refine fun _ => ?_; dsimp only [hyps, imps]; omega) | (refine fun _ _ => ?_; dsimp only [hyps, imps]; omega) | exact (u8w _).1 | exact (u8w _).2 | exact (u8n _).1 | exact (u8n _).2 | (simp only [byt, maxLen, lens]; omega) | (intros; simp only [nb] at *; omega)) ?_
  refine W.seq ?_
  refine W.seq ?_
  refine W.reg X [] [] [0, 1, 5, 6] [] rfl ⟨⟩ ?_
  refine W.block ?_
  refine W.loopO (fun k => k ≤ (randSel sd rows).length) (fun k : Nat => [(6, .one (.a (.lit (.int .i64 k))))]) (fun k => [(8, .arr .int ((randSel sd rows).take k))]) (fun k => (randSel sd rows).length - k) 0 (fun k => rfl) (Nat.zero_le _) rfl ?_
  intro k hk
  have hle := take_le_len (randSel sd rows) k
  have hrl := randSel_len sd rows
  refine W.seq ?_
  refine W.seq ?_
  refine W.reg X [] [] [0, 1, 5, 6, 15] [] rfl ⟨⟩ ?_
  refine W.cond rfl (fun hb0 => ?_) (fun hb0 => ?_)
  · try simp only [nb, inr_t, inr_f, isEmpty_t] at hb0
    have hin := randSel_in sd rows k (by omega) (by omega)
    have hs := randSel_step sd rows k (by omega) (by omega)
    refine W.skip ?_
    refine W.seq ?_
    refine W.block ?_
    refine W.seq ?_
    refine W.reg X [] [(21, ⟨false, [.a (.lit (.int .i64 (kh sd [(k : Int), 41])))]⟩)] [0, 1, 5, 6, 7] [] rfl (by (repeat' (first | with_reducible exact AllP.nil | with_reducible refine AllP.mk ?_ ?_ | with_reducible apply And.intro)) <;> skip; (iterate 1 (all_goals try (first | exact (c_spec_KeyedHash sd [(k : Int), 41] (by first | assumption | omega | (simp; done) | (simp; omega))) | exact fun _ => (c_spec_KeyedHash sd [(k : Int), 41] (by first | assumption | omega | (simp; done) | (simp; omega))) | exact fun _ _ => (c_spec_KeyedHash sd [(k : Int), 41] (by first | assumption | omega | (simp; done) | (simp; omega)))))); all_goals (first | (intros; omega) | exact rfl | exact El_all _ (by decide) | exact ⟨rfl, El_all _ (by decide)⟩ | ((intro h1; first | (intro h2; first | (intro h3; refine And.intro ?_ ?_) | refine And.intro ?_ ?_) | refine And.intro ?_ ?_) <;> first | omega | ((try simp only [nb, inr_t, inr_f] at *); (try simp (disch := omega) only [i64w]); omega)) | ((try simp only [nb, inr_t, inr_f] at *); (simp (disch := omega) only [i64w]); omega) | (refine fun _ => ?_; dsimp only [hyps, imps]; omega) | (refine fun _ _ => ?_; dsimp only [hyps, imps]; omega) | exact (u8w _).1 | exact (u8w _).2 | exact (u8n _).1 | exact (u8n _).2 | (simp only [byt, maxLen, lens]; omega) | (intros; simp only [nb] at *; omega))) ?_
    refine W.reg X [(30, 8)] [] [0, 1, 5, 6] [] rfl (by (repeat' (first | exact True.intro | apply And.intro)) <;> first | (intros; omega) | exact rfl | exact El_all _ (by decide) | exact ⟨rfl, El_all _ (by decide)⟩ | ((intro h1; first | (intro h2; first | (intro h3; refine And.intro ?_ ?_) | refine And.intro ?_ ?_) | refine And.intro ?_ ?_) <;> first | omega | ((try simp only [nb, inr_t, inr_f] at *); (try simp (disch := omega) only [i64w]); omega)) | ((try simp only [nb, inr_t, inr_f] at *); (simp (disch := omega) only [i64w]); omega) | (refine fun _ => ?_; dsimp only [hyps, imps]; omega) | (refine fun _ _ => ?_; dsimp only [hyps, imps]; omega) | exact (u8w _).1 | exact (u8w _).2 | exact (u8n _).1 | exact (u8n _).2 | (simp only [byt, maxLen, lens]; omega) | (intros; simp only [nb] at *; omega)) ?_
    refine W.reg X [] [] [0, 1, 5, 6] [] rfl ⟨⟩ ?_
    refine ⟨k + 1, by omega, by omega, ?_⟩
    rw [wadd _ k rfl (by omega), hs]
    try rfl
  · try simp only [nb, inr_t, inr_f, isEmpty_t] at hb0
    refine W.exit ?_
    refine W.seq ?_
    refine W.reg X [] [] [4] [] rfl ⟨⟩ ?_
    refine W.ret ?_
    exact Fin.ret rfl ⟨by rw [randSel_end _ _ _ (by omega)], ⟨⟩⟩
theorem c_spec_UnitSelection (rows i : Int) : Sound ty Tryz.prog 164 [.a (.lit (.int .i64 rows)), .a (.lit (.int .i64 i))] [.a (.sl .int (unitS rows i))] := by
  refine Sound.of X Tryz.call164 Tryz.func164 rfl rfl (by decide) Tryz.ntmps164 (by simp) ?_
  intro zb
  refine W.seq ?_
  refine W.reg X [] [] [0, 1] [] rfl ⟨⟩ ?_
  refine W.seq ?_
  refine W.seq ?_
  refine W.reg X [] [(7, ⟨false, [.a (.lit (.bool (inr rows 1 64)))]⟩), (13, ⟨false, [.a (.lit (.bool (inr i 0 (IntKind.i64.wrap (rows - 1)))))]⟩)] [0, 1, 15] [] rfl (by (repeat' (first | with_reducible exact AllP.nil | with_reducible refine AllP.mk ?_ ?_ | with_reducible apply And.intro)) <;> skip; (iterate 2 (all_goals try (first | exact (c_spec_l1In rows 1 64) | exact fun _ => (c_spec_l1In rows 1 64) | exact fun _ _ => (c_spec_l1In rows 1 64) | exact (c_spec_l1In i 0 (IntKind.i64.wrap (rows - 1))) | exact fun _ => (c_spec_l1In i 0 (IntKind.i64.wrap (rows - 1))) | exact fun _ _ => (c_spec_l1In i 0 (IntKind.i64.wrap (rows - 1)))))); all_goals (first | (intros; omega) | exact rfl | exact El_all _ (by decide) | exact ⟨rfl, El_all _ (by decide)⟩ | ((intro h1; first | (intro h2; first | (intro h3; refine And.intro ?_ ?_) | refine And.intro ?_ ?_) | refine And.intro ?_ ?_) <;> first | omega | ((try simp only [nb, inr_t, inr_f] at *); (try simp (disch := omega) only [i64w]); omega)) | ((try simp only [nb, inr_t, inr_f] at *); (simp (disch := omega) only [i64w]); omega) | (refine fun _ => ?_; dsimp only [hyps, imps]; omega) | (refine fun _ _ => ?_; dsimp only [hyps, imps]; omega) | exact (u8w _).1 | exact (u8w _).2 | exact (u8n _).1 | exact (u8n _).2 | (simp only [byt, maxLen, lens]; omega) | (intros; simp only [nb] at *; omega))) ?_
  refine W.cond rfl (fun hb0 => ?_) (fun hb0 => ?_)
  · have hk : unitOK rows i = false := or_no1 hb0 (by simp only [unitOK, ite_tt, ite_ff, gt_iff_lt, ge_iff_le, not_dlt, not_dle, bne_not, deq, decide_not, ne_eq, Bool.not_and, Bool.not_or, Bool.not_not, Bool.and_true, Bool.true_and, Bool.or_false, Bool.false_or, Int.toNat_natCast] <;> first | rfl | ac_rfl)
    refine W.seq ?_
    refine W.reg X [] [] [4] [] rfl (by (repeat' (first | exact True.intro | apply And.intro)) <;> first | (intros; omega) | exact rfl | exact El_all _ (by decide) | exact ⟨rfl, El_all _ (by decide)⟩ | ((intro h1; first | (intro h2; first | (intro h3; refine And.intro ?_ ?_) | refine And.intro ?_ ?_) | refine And.intro ?_ ?_) <;> first | omega | ((try simp only [nb, inr_t, inr_f] at *); (try simp (disch := omega) only [i64w]); omega)) | ((try simp only [nb, inr_t, inr_f] at *); (simp (disch := omega) only [i64w]); omega) | (refine fun _ => ?_; dsimp only [hyps, imps]; omega) | (refine fun _ _ => ?_; dsimp only [hyps, imps]; omega) | exact (u8w _).1 | exact (u8w _).2 | exact (u8n _).1 | exact (u8n _).2 | (simp only [byt, maxLen, lens]; omega) | (intros; simp only [nb] at *; omega)) ?_
    refine W.ret ?_
    exact Fin.ret rfl ⟨by rw [unitS_neg hk], ⟨⟩⟩
  · have hk : unitOK rows i = true := or_yes hb0 (by simp only [unitOK, ite_tt, ite_ff, gt_iff_lt, ge_iff_le, not_dlt, not_dle, bne_not, deq, decide_not, ne_eq, Bool.not_and, Bool.not_or, Bool.not_not, Bool.and_true, Bool.true_and, Bool.or_false, Bool.false_or, Int.toNat_natCast] <;> first | rfl | ac_rfl)
    have hu := unitOK_b hk
    refine W.skip ?_
    refine W.seq ?_
    refine W.reg X [] [] [1, 5] [] rfl (by (repeat' (first | exact True.intro | apply And.intro)) <;> first | (intros; omega) | exact rfl | exact El_all _ (by decide) | exact ⟨rfl, El_all _ (by decide)⟩ | ((intro h1; first | (intro h2; first | (intro h3; refine And.intro ?_ ?_) | refine And.intro ?_ ?_) | refine And.intro ?_ ?_) <;> first | omega | ((try simp only [nb, inr_t, inr_f] at *); (try simp (disch := omega) only [i64w]); omega)) | ((try simp only [nb, inr_t, inr_f] at *); (simp (disch := omega) only [i64w]); omega) | (refine fun _ => ?_; dsimp only [hyps, imps]; omega) | (refine fun _ _ => ?_; dsimp only [hyps, imps]; omega) | exact (u8w _).1 | exact (u8w _).2 | exact (u8n _).1 | exact (u8n _).2 | (simp only [byt, maxLen, lens]; omega) | (intros; simp only [nb] at *; omega)) ?_
    refine W.seq ?_
    refine W.reg X [] [] [5] [] rfl (by (repeat' (first | exact True.intro | apply And.intro)) <;> first | (intros; omega) | exact rfl | exact El_all _ (by decide) | exact ⟨rfl, El_all _ (by decide)⟩ | ((intro h1; first | (intro h2; first | (intro h3; refine And.intro ?_ ?_) | refine And.intro ?_ ?_) | refine And.intro ?_ ?_) <;> first | omega | ((try simp only [nb, inr_t, inr_f] at *); (try simp (disch := omega) only [i64w]); omega)) | ((try simp only [nb, inr_t, inr_f] at *); (simp (disch := omega) only [i64w]); omega) | (refine fun _ => ?_; dsimp only [hyps, imps]; omega) | (refine fun _ _ => ?_; dsimp only [hyps, imps]; omega) | exact (u8w _).1 | exact (u8w _).2 | exact (u8n _).1 | exact (u8n _).2 | (simp only [byt, maxLen, lens]; omega) | (intros; simp only [nb] at *; omega)) ?_
    refine W.seq ?_
    refine W.reg X [] [] [4] [] rfl ⟨⟩ ?_
    refine W.ret ?_
    exact Fin.ret rfl ⟨by rw [unitS_pos hk], ⟨⟩⟩
theorem c_spec_XorSelections (a b : List Int) (ha : a.length ≤ 1048576) (hb : b.length ≤ 1048576) : Sound ty Tryz.prog 166 [.a (.sl .int a), .a (.sl .int b)] [.a (.sl .int (xorSel a b))] := by
  refine Sound.of X Tryz.call166 Tryz.func166 rfl rfl (by decide) Tryz.ntmps166 (by simp) ?_
  intro zb
  refine W.seq ?_
  refine W.reg X [] [] [0, 1] [] rfl ⟨⟩ ?_
  refine W.seq ?_
  refine W.reg X [] [] [0, 1, 5] [] rfl (by (repeat' (first | exact True.intro | apply And.intro)) <;> first | (intros; omega) | exact rfl | exact El_all _ (by decide) | exact ⟨rfl, El_all _ (by decide)⟩ | ((intro h1; first | (intro h2; first | (intro h3; refine And.intro ?_ ?_) | refine And.intro ?_ ?_) | refine And.intro ?_ ?_) <;> first | omega | ((try simp only [nb, inr_t, inr_f] at *); (try simp (disch := omega) only [i64w]); omega)) | ((try simp only [nb, inr_t, inr_f] at *); (simp (disch := omega) only [i64w]); omega) | (refine fun _ => ?_; dsimp only [hyps, imps]; omega) | (refine fun _ _ => ?_; dsimp only [hyps, imps]; omega) | exact (u8w _).1 | exact (u8w _).2 | exact (u8n _).1 | exact (u8n _).2 | (simp only [byt, maxLen, lens]; omega) | (intros; simp only [nb] at *; omega)) ?_
  refine W.seq ?_
  refine W.seq ?_
  refine W.reg X [] [(11, ⟨false, [.a (.lit (.bool (isSel a (a.length : Int))))]⟩), (17, ⟨false, [.a (.lit (.bool (isSel b (a.length : Int))))]⟩)] [0, 1, 5, 19] [] rfl (by (repeat' (first | with_reducible exact AllP.nil | with_reducible refine AllP.mk ?_ ?_ | with_reducible apply And.intro)) <;> skip; (iterate 2 (all_goals try (first | exact (c_spec_IsSelection a (a.length : Int)) | exact fun _ => (c_spec_IsSelection a (a.length : Int)) | exact fun _ _ => (c_spec_IsSelection a (a.length : Int)) | exact (c_spec_IsSelection b (a.length : Int)) | exact fun _ => (c_spec_IsSelection b (a.length : Int)) | exact fun _ _ => (c_spec_IsSelection b (a.length : Int))))); all_goals (first | (intros; omega) | exact rfl | exact El_all _ (by decide) | exact ⟨rfl, El_all _ (by decide)⟩ | ((intro h1; first | (intro h2; first | (intro h3; refine And.intro ?_ ?_) | refine And.intro ?_ ?_) | refine And.intro ?_ ?_) <;> first | omega | ((try simp only [nb, inr_t, inr_f] at *); (try simp (disch := omega) only [i64w]); omega)) | ((try simp only [nb, inr_t, inr_f] at *); (simp (disch := omega) only [i64w]); omega) | (refine fun _ => ?_; dsimp only [hyps, imps]; omega) | (refine fun _ _ => ?_; dsimp only [hyps, imps]; omega) | exact (u8w _).1 | exact (u8w _).2 | exact (u8n _).1 | exact (u8n _).2 | (simp only [byt, maxLen, lens]; omega) | (intros; simp only [nb] at *; omega))) ?_
  refine W.cond rfl (fun hb0 => ?_) (fun hb0 => ?_)
  · have hxk : xorOK a b = false := or_no1 hb0 (by simp only [xorOK, ite_tt, ite_ff, gt_iff_lt, ge_iff_le, not_dlt, not_dle, bne_not, deq, decide_not, ne_eq, Bool.not_and, Bool.not_or, Bool.not_not, Bool.and_true, Bool.true_and, Bool.or_false, Bool.false_or, Int.toNat_natCast] <;> first | rfl | ac_rfl)
    refine W.seq ?_
    refine W.reg X [] [] [4] [] rfl ⟨⟩ ?_
    refine W.ret ?_
    exact Fin.ret rfl ⟨by rw [xorSel, if_neg (by rw [hxk]; decide)], ⟨⟩⟩
  · have hxk : xorOK a b = true := or_yes hb0 (by simp only [xorOK, ite_tt, ite_ff, gt_iff_lt, ge_iff_le, not_dlt, not_dle, bne_not, deq, decide_not, ne_eq, Bool.not_and, Bool.not_or, Bool.not_not, Bool.and_true, Bool.true_and, Bool.or_false, Bool.false_or, Int.toNat_natCast] <;> first | rfl | ac_rfl)
    have hkl := xorOK_len hxk
    have hzl := zip_len hxk
    refine W.skip ?_
    refine W.seq ?_
    refine W.seq ?_
    refine W.reg X [] [] [0, 1, 5, 6] [] rfl ⟨⟩ ?_
    refine W.block ?_
    refine W.loopO (fun k => k ≤ a.length) (fun k : Nat => [(6, .one (.a (.lit (.int .i64 k))))]) (fun k => [(7, .arr .int ((List.zipWith xb a b).take k))]) (fun k => a.length - k) 0 (fun k => rfl) (Nat.zero_le _) rfl ?_
    intro k hk
    have hle := take_le_len (List.zipWith xb a b) k
    refine W.seq ?_
    refine W.seq ?_
    refine W.reg X [] [] [0, 1, 5, 6, 24] [] rfl ⟨⟩ ?_
    refine W.cond rfl (fun hb1 => ?_) (fun hb1 => ?_)
    · try simp only [nb, inr_t, inr_f, isEmpty_t] at hb1
      have hs := xorSel_spec hxk k hb1
      refine W.skip ?_
      refine W.seq ?_
      refine W.block ?_
      refine W.draw X [(38, 7)] [] [0, 1, 5, 6] [] 11 MO (by kernel_rfl) rfl (by (repeat' (first | exact True.intro | apply And.intro)) <;> first | (intros; omega) | exact rfl | exact El_all _ (by decide) | exact ⟨rfl, El_all _ (by decide)⟩ | ((intro h1; first | (intro h2; first | (intro h3; refine And.intro ?_ ?_) | refine And.intro ?_ ?_) | refine And.intro ?_ ?_) <;> first | omega | ((try simp only [nb, inr_t, inr_f] at *); (try simp (disch := omega) only [i64w]); omega)) | ((try simp only [nb, inr_t, inr_f] at *); (simp (disch := omega) only [i64w]); omega) | (refine fun _ => ?_; dsimp only [hyps, imps]; omega) | (refine fun _ _ => ?_; dsimp only [hyps, imps]; omega) | exact (u8w _).1 | exact (u8w _).2 | exact (u8n _).1 | exact (u8n _).2 | (simp only [byt, maxLen, lens]; omega) | (intros; simp only [nb] at *; omega)) ?_
      refine W.reg X [] [] [0, 1, 5, 6] [] rfl ⟨⟩ ?_
      refine ⟨k + 1, by omega, by omega, ?_⟩
      rw [wadd _ k rfl (by omega), hs]
      try rfl
    · try simp only [nb, inr_t, inr_f, isEmpty_t] at hb1
      refine W.exit ?_
      refine W.seq ?_
      refine W.reg X [] [] [4] [] rfl ⟨⟩ ?_
      refine W.ret ?_
      exact Fin.ret rfl ⟨by rw [List.take_of_length_le (by omega), xorSel_pos hxk], ⟨⟩⟩
theorem c_spec_MakeQuery (rows i : Int) (sd : List Int) (hsl : sd.length ≤ 1048576) : Sound ty Tryz.prog 149 [.a (.lit (.int .i64 rows)), .a (.lit (.int .i64 i)), .a (.sl .int sd)] [.a (.sl (.sl .int) (makeQ rows i sd))] := by
  refine Sound.of X Tryz.call149 Tryz.func149 rfl rfl (by decide) Tryz.ntmps149 (by simp) ?_
  intro zb
  have hun := unitS_len rows i
  refine W.seq ?_
  refine W.reg X [] [] [0, 1, 2] [] rfl ⟨⟩ ?_
  refine W.seq ?_
  refine W.reg X [] [] [0, 1, 2, 7] [] rfl (by (repeat' (first | exact True.intro | apply And.intro)) <;> first | (intros; omega) | exact rfl | exact El_all _ (by decide) | exact ⟨rfl, El_all _ (by decide)⟩ | ((intro h1; first | (intro h2; first | (intro h3; refine And.intro ?_ ?_) | refine And.intro ?_ ?_) | refine And.intro ?_ ?_) <;> first | omega | ((try simp only [nb, inr_t, inr_f] at *); (try simp (disch := omega) only [i64w]); omega)) | ((try simp only [nb, inr_t, inr_f] at *); (simp (disch := omega) only [i64w]); omega) | (refine fun _ => ?_; dsimp only [hyps, imps]; omega) | (refine fun _ _ => ?_; dsimp only [hyps, imps]; omega) | exact (u8w _).1 | exact (u8w _).2 | exact (u8n _).1 | exact (u8n _).2 | (simp only [byt, maxLen, lens]; omega) | (intros; simp only [nb] at *; omega)) ?_
  refine W.seq ?_
  refine W.reg X [] [(14, ⟨true, [.a (.sl .int _)]⟩)] [0, 2, 7, 8] [] rfl (by (repeat' (first | with_reducible exact AllP.nil | with_reducible refine AllP.mk ?_ ?_ | with_reducible apply And.intro)) <;> skip; (iterate 1 (all_goals try (first | exact (c_spec_UnitSelection _ _) | exact fun _ => (c_spec_UnitSelection _ _) | exact fun _ _ => (c_spec_UnitSelection _ _)))); all_goals (first | (intros; omega) | exact rfl | exact El_all _ (by decide) | exact ⟨rfl, El_all _ (by decide)⟩ | ((intro h1; first | (intro h2; first | (intro h3; refine And.intro ?_ ?_) | refine And.intro ?_ ?_) | refine And.intro ?_ ?_) <;> first | omega | ((try simp only [nb, inr_t, inr_f] at *); (try simp (disch := omega) only [i64w]); omega)) | ((try simp only [nb, inr_t, inr_f] at *); (simp (disch := omega) only [i64w]); omega) | (refine fun _ => ?_; dsimp only [hyps, imps]; omega) | (refine fun _ _ => ?_; dsimp only [hyps, imps]; omega) | exact (u8w _).1 | exact (u8w _).2 | exact (u8n _).1 | exact (u8n _).2 | (simp only [byt, maxLen, lens]; omega) | (intros; simp only [nb] at *; omega))) ?_
  refine W.seq ?_
  refine W.seq ?_
  refine W.reg X [] [(22, ⟨false, [.a (.lit (.bool (srvCnt (IntKind.i64.wrap ((sd.length : Int) + 1)))))]⟩)] [0, 2, 7, 8, 24] [] rfl (by (repeat' (first | with_reducible exact AllP.nil | with_reducible refine AllP.mk ?_ ?_ | with_reducible apply And.intro)) <;> skip; (iterate 1 (all_goals try (first | exact (c_spec_l7Count (IntKind.i64.wrap ((sd.length : Int) + 1))) | exact fun _ => (c_spec_l7Count (IntKind.i64.wrap ((sd.length : Int) + 1))) | exact fun _ _ => (c_spec_l7Count (IntKind.i64.wrap ((sd.length : Int) + 1)))))); all_goals (first | (intros; omega) | exact rfl | exact El_all _ (by decide) | exact ⟨rfl, El_all _ (by decide)⟩ | ((intro h1; first | (intro h2; first | (intro h3; refine And.intro ?_ ?_) | refine And.intro ?_ ?_) | refine And.intro ?_ ?_) <;> first | omega | ((try simp only [nb, inr_t, inr_f] at *); (try simp (disch := omega) only [i64w]); omega)) | ((try simp only [nb, inr_t, inr_f] at *); (simp (disch := omega) only [i64w]); omega) | (refine fun _ => ?_; dsimp only [hyps, imps]; omega) | (refine fun _ _ => ?_; dsimp only [hyps, imps]; omega) | exact (u8w _).1 | exact (u8w _).2 | exact (u8n _).1 | exact (u8n _).2 | (simp only [byt, maxLen, lens]; omega) | (intros; simp only [nb] at *; omega))) ?_
  refine W.cond rfl (fun hb0 => ?_) (fun hb0 => ?_)
  · have hmk : mkOK rows i sd = false := or_no1 hb0 (by simp only [mkOK, ite_tt, ite_ff, gt_iff_lt, ge_iff_le, not_dlt, not_dle, bne_not, deq, decide_not, ne_eq, Bool.not_and, Bool.not_or, Bool.not_not, Bool.and_true, Bool.true_and, Bool.or_false, Bool.false_or, Int.toNat_natCast] <;> first | rfl | ac_rfl)
    refine W.seq ?_
    refine W.reg X [] [] [6] [] rfl ⟨⟩ ?_
    refine W.ret ?_
    exact Fin.ret rfl ⟨by rw [makeQ, if_neg (by rw [hmk]; decide)], ⟨⟩⟩
  · have hmk : mkOK rows i sd = true := or_yes hb0 (by simp only [mkOK, ite_tt, ite_ff, gt_iff_lt, ge_iff_le, not_dlt, not_dle, bne_not, deq, decide_not, ne_eq, Bool.not_and, Bool.not_or, Bool.not_not, Bool.and_true, Bool.true_and, Bool.or_false, Bool.false_or, Int.toNat_natCast] <;> first | rfl | ac_rfl)
    have hkl := mkOK_len hmk hsl
    refine W.skip ?_
    refine W.seq ?_
    refine W.seq ?_
    refine W.reg X [] [] [0, 2, 7, 8, 9] [] rfl ⟨⟩ ?_
    refine W.block ?_
    refine W.loopO (fun k => k ≤ sd.length) (fun k : Nat => [(9, .one (.a (.lit (.int .i64 k))))]) (fun k => [(11, .arr (.sl .int) ((sd.take k).map fun s => randSel s rows)), (14, .arr .int (lastQ rows i (sd.take k)))]) (fun k => sd.length - k) 0 (fun k => rfl) (Nat.zero_le _) rfl ?_
    intro k hk
    have hle := take_le_len sd k
    have hql := lastQ_len rows i (sd.take k)
    refine W.seq ?_
    refine W.seq ?_
    refine W.reg X [] [] [0, 2, 7, 8, 9, 29] [] rfl ⟨⟩ ?_
    refine W.cond rfl (fun hb1 => ?_) (fun hb1 => ?_)
    · try simp only [nb, inr_t, inr_f, isEmpty_t] at hb1
      have hs := map_snoc (fun s => randSel s rows) sd k (dfl .int) hb1
      have hs2 := lastQ_step rows i sd k hb1
      have hrl := randSel_len (sd.getD k (dfl .int)) rows
      refine W.skip ?_
      refine W.seq ?_
      refine W.block ?_
      refine W.seq ?_
      refine W.reg X [] [(37, ⟨true, [.a (.sl .int (randSel (sd.getD k (dfl .int)) rows))]⟩)] [0, 2, 7, 8, 9, 10] [] rfl (by (repeat' (first | with_reducible exact AllP.nil | with_reducible refine AllP.mk ?_ ?_ | with_reducible apply And.intro)) <;> skip; (iterate 1 (all_goals try (first | exact (c_spec_RandomSelection (sd.getD k (dfl .int)) rows) | exact fun _ => (c_spec_RandomSelection (sd.getD k (dfl .int)) rows) | exact fun _ _ => (c_spec_RandomSelection (sd.getD k (dfl .int)) rows)))); all_goals (first | (intros; omega) | exact rfl | exact El_all _ (by decide) | exact ⟨rfl, El_all _ (by decide)⟩ | ((intro h1; first | (intro h2; first | (intro h3; refine And.intro ?_ ?_) | refine And.intro ?_ ?_) | refine And.intro ?_ ?_) <;> first | omega | ((try simp only [nb, inr_t, inr_f] at *); (try simp (disch := omega) only [i64w]); omega)) | ((try simp only [nb, inr_t, inr_f] at *); (simp (disch := omega) only [i64w]); omega) | (refine fun _ => ?_; dsimp only [hyps, imps]; omega) | (refine fun _ _ => ?_; dsimp only [hyps, imps]; omega) | exact (u8w _).1 | exact (u8w _).2 | exact (u8n _).1 | exact (u8n _).2 | (simp only [byt, maxLen, lens]; omega) | (intros; simp only [nb] at *; omega))) ?_
      refine W.seq ?_
      refine W.reg X [] [(40, ⟨true, [.a (.sl .int (xorSel (lastQ rows i (sd.take k)) (randSel (sd.getD k (dfl .int)) rows)))]⟩)] [0, 2, 7, 8, 9, 10] [] rfl (by (repeat' (first | with_reducible exact AllP.nil | with_reducible refine AllP.mk ?_ ?_ | with_reducible apply And.intro)) <;> skip; (iterate 1 (all_goals try (first | exact (c_spec_XorSelections (lastQ rows i (sd.take k)) (randSel (sd.getD k (dfl .int)) rows) (by first | assumption | omega | (simp; done) | (simp; omega)) (by first | assumption | omega | (simp; done) | (simp; omega))) | exact fun _ => (c_spec_XorSelections (lastQ rows i (sd.take k)) (randSel (sd.getD k (dfl .int)) rows) (by first | assumption | omega | (simp; done) | (simp; omega)) (by first | assumption | omega | (simp; done) | (simp; omega))) | exact fun _ _ => (c_spec_XorSelections (lastQ rows i (sd.take k)) (randSel (sd.getD k (dfl .int)) rows) (by first | assumption | omega | (simp; done) | (simp; omega)) (by first | assumption | omega | (simp; done) | (simp; omega)))))); all_goals (first | (intros; omega) | exact rfl | exact El_all _ (by decide) | exact ⟨rfl, El_all _ (by decide)⟩ | ((intro h1; first | (intro h2; first | (intro h3; refine And.intro ?_ ?_) | refine And.intro ?_ ?_) | refine And.intro ?_ ?_) <;> first | omega | ((try simp only [nb, inr_t, inr_f] at *); (try simp (disch := omega) only [i64w]); omega)) | ((try simp only [nb, inr_t, inr_f] at *); (simp (disch := omega) only [i64w]); omega) | (refine fun _ => ?_; dsimp only [hyps, imps]; omega) | (refine fun _ _ => ?_; dsimp only [hyps, imps]; omega) | exact (u8w _).1 | exact (u8w _).2 | exact (u8n _).1 | exact (u8n _).2 | (simp only [byt, maxLen, lens]; omega) | (intros; simp only [nb] at *; omega))) ?_
      refine W.rename 8 14 rfl ?_
      refine W.reg X [(44, 11)] [] [0, 2, 7, 8, 9] [] rfl (by (repeat' (first | exact True.intro | apply And.intro)) <;> first | (intros; omega) | exact rfl | exact El_all _ (by decide) | exact ⟨rfl, El_all _ (by decide)⟩ | ((intro h1; first | (intro h2; first | (intro h3; refine And.intro ?_ ?_) | refine And.intro ?_ ?_) | refine And.intro ?_ ?_) <;> first | omega | ((try simp only [nb, inr_t, inr_f] at *); (try simp (disch := omega) only [i64w]); omega)) | ((try simp only [nb, inr_t, inr_f] at *); (simp (disch := omega) only [i64w]); omega) | (refine fun _ => ?_; dsimp only [hyps, imps]; omega) | (refine fun _ _ => ?_; dsimp only [hyps, imps]; omega) | exact (u8w _).1 | exact (u8w _).2 | exact (u8n _).1 | exact (u8n _).2 | (simp only [byt, maxLen, lens]; omega) | (intros; simp only [nb] at *; omega)) ?_
      refine W.reg X [] [] [0, 2, 7, 8, 9] [] rfl ⟨⟩ ?_
      refine ⟨k + 1, by omega, by omega, ?_⟩
      rw [wadd _ k rfl (by omega), hs, hs2]
      try rfl
    · try simp only [nb, inr_t, inr_f, isEmpty_t] at hb1
      refine W.exit ?_
      refine W.seq ?_
      refine W.reg X [(48, 11)] [] [6] [] rfl (by (repeat' (first | exact True.intro | apply And.intro)) <;> first | (intros; omega) | exact rfl | exact El_all _ (by decide) | exact ⟨rfl, El_all _ (by decide)⟩ | ((intro h1; first | (intro h2; first | (intro h3; refine And.intro ?_ ?_) | refine And.intro ?_ ?_) | refine And.intro ?_ ?_) <;> first | omega | ((try simp only [nb, inr_t, inr_f] at *); (try simp (disch := omega) only [i64w]); omega)) | ((try simp only [nb, inr_t, inr_f] at *); (simp (disch := omega) only [i64w]); omega) | (refine fun _ => ?_; dsimp only [hyps, imps]; omega) | (refine fun _ _ => ?_; dsimp only [hyps, imps]; omega) | exact (u8w _).1 | exact (u8w _).2 | exact (u8n _).1 | exact (u8n _).2 | (simp only [byt, maxLen, lens]; omega) | (intros; simp only [nb] at *; omega)) ?_
      refine W.ret ?_
      exact Fin.ret rfl ⟨by rw [List.take_of_length_le hb1, makeQ, if_pos hmk], ⟨⟩⟩
end Go.Proofs.YtlocnjfgeifmnaaGreat.G
namespace Go.Proofs.YtlocnjfgeifmnaaGreat.G
set_option linter.all false
open Go.RowKit L D
set_option maxRecDepth 100000
theorem c_impl_readSeeds (x : Wld) (r row s : Int) (hsv : x.servers.length ≤ 1048576) : Sound ty Tryz.prog 75 [.agg (dec_Wld x), .a (.lit (.int .i64 r)), .a (.lit (.int .i64 row)), .a (.lit (.int .i64 s))] [.a (.sl .int (rseeds x.servers.length r row s))] := by
  refine Sound.of X Tryz.call75 Tryz.func75 rfl rfl (by decide) Tryz.ntmps75 (by simp) ?_
  intro zb
  have hw : IntKind.i64.wrap ((x.servers.length : Int) - 1) = (x.servers.length : Int) - 1 := i64w (by omega)
  refine W.seq ?_
  refine W.reg X [] [] [1, 2, 3, 4] [] rfl ⟨⟩ ?_
  refine W.seq ?_
  refine W.reg X [] [] [1, 2, 3, 4, 9] [] rfl (by (repeat' (first | exact True.intro | apply And.intro)) <;> first | (intros; omega) | exact rfl | exact El_all _ (by decide) | exact ⟨rfl, El_all _ (by decide)⟩ | ((intro h1; first | (intro h2; first | (intro h3; refine And.intro ?_ ?_) | refine And.intro ?_ ?_) | refine And.intro ?_ ?_) <;> first | omega | ((try simp only [nb, inr_t, inr_f] at *); (try simp (disch := omega) only [i64w]); omega)) | ((try simp only [nb, inr_t, inr_f] at *); (simp (disch := omega) only [i64w]); omega) | (refine fun _ => ?_; dsimp only [hyps, imps]; omega) | (refine fun _ _ => ?_; dsimp only [hyps, imps]; omega) | exact (u8w _).1 | exact (u8w _).2 | exact (u8n _).1 | exact (u8n _).2 | (simp only [byt, maxLen, lens]; omega) | (intros; simp only [nb] at *; omega)) ?_
  refine W.seq ?_
  refine W.seq ?_
  refine W.reg X [] [] [1, 2, 3, 9, 16, 17] [] rfl ⟨⟩ ?_
  refine W.block ?_
  refine W.loopO (fun k => k ≤ (x.servers.length - 1)) (fun k : Nat => [(17, .one (.a (.lit (.int .i64 k))))]) (fun k => [(11, .arr .int ((rseeds x.servers.length r row s).take k))]) (fun k => (x.servers.length - 1) - k) 0 (fun k => rfl) (Nat.zero_le _) rfl ?_
  intro k hk
  have hle := take_le_len (rseeds x.servers.length r row s) k
  have hrl := rseeds_len x.servers.length r row s
  refine W.seq ?_
  refine W.reg X [] [] [1, 2, 3, 9, 16, 17, 18] [] rfl ⟨⟩ ?_
  refine W.seq ?_
  refine W.cond rfl (fun hb0 => ?_) (fun hb0 => ?_)
  · try simp only [nb, inr_t, inr_f, isEmpty_t] at hb0
    rw [maxi0 _ hsv] at hb0
    have hs := rseeds_step x.servers.length r row s k (by omega)
    refine W.skip ?_
    refine W.seq ?_
    refine W.block ?_
    refine W.seq ?_
    refine W.reg X [] [] [1, 2, 3, 9, 10, 16, 17] [] rfl ⟨⟩ ?_
    refine W.reg X [(28, 11)] [(26, ⟨false, [.a (.lit (.int .i64 (kh s [229, r, row, (k : Int)])))]⟩)] [1, 2, 3, 9, 16, 17] [] rfl (by (repeat' (first | with_reducible exact AllP.nil | with_reducible refine AllP.mk ?_ ?_ | with_reducible apply And.intro)) <;> skip; (iterate 1 (all_goals try (first | exact (c_impl_KeyedHash s [229, r, row, (k : Int)] (by first | assumption | omega | (simp; done) | (simp; omega))) | exact fun _ => (c_impl_KeyedHash s [229, r, row, (k : Int)] (by first | assumption | omega | (simp; done) | (simp; omega))) | exact fun _ _ => (c_impl_KeyedHash s [229, r, row, (k : Int)] (by first | assumption | omega | (simp; done) | (simp; omega)))))); all_goals (first | (intros; omega) | exact rfl | exact El_all _ (by decide) | exact ⟨rfl, El_all _ (by decide)⟩ | ((intro h1; first | (intro h2; first | (intro h3; refine And.intro ?_ ?_) | refine And.intro ?_ ?_) | refine And.intro ?_ ?_) <;> first | omega | ((try simp only [nb, inr_t, inr_f] at *); (try simp (disch := omega) only [i64w]); omega)) | ((try simp only [nb, inr_t, inr_f] at *); (simp (disch := omega) only [i64w]); omega) | (refine fun _ => ?_; dsimp only [hyps, imps]; omega) | (refine fun _ _ => ?_; dsimp only [hyps, imps]; omega) | exact (u8w _).1 | exact (u8w _).2 | exact (u8n _).1 | exact (u8n _).2 | (simp only [byt, maxLen, lens]; omega) | (intros; simp only [nb] at *; omega))) ?_
    refine W.reg X [] [] [1, 2, 3, 9, 16, 17] [] rfl ⟨⟩ ?_
    refine ⟨k + 1, by omega, by omega, ?_⟩
    rw [wadd _ k rfl (by omega), hs]
    try rfl
  · try simp only [nb, inr_t, inr_f, isEmpty_t] at hb0
    rw [maxi0 _ hsv] at hb0
    refine W.exit ?_
    refine W.seq ?_
    refine W.reg X [] [] [8] [] rfl ⟨⟩ ?_
    refine W.ret ?_
    exact Fin.ret rfl ⟨by rw [List.take_of_length_le (by omega)], ⟨⟩⟩
theorem c_impl_SelectionView (x : Wld) (sv r row s : Int) (hsv : x.servers.length ≤ 1048576) : Sound ty Tryz.prog 19 [.agg (dec_Wld x), .a (.lit (.int .i64 sv)), .a (.lit (.int .i64 r)), .a (.lit (.int .i64 row)), .a (.lit (.int .i64 s))] [.a (.vw 0 none .int (selView x sv r row s))] := by
  refine Sound.of X Tryz.call19 Tryz.func19 rfl rfl (by decide) Tryz.ntmps19 (by simp) ?_
  intro zb
  refine W.boundA 0 1 rfl rfl (fun hl1 => ?_)
  refine W.seq ?_
  refine W.reg X [] [] [1, 2, 3, 4, 5] [] rfl ⟨⟩ ?_
  refine W.seq ?_
  refine W.seq ?_
  refine W.reg X [] [(12, ⟨false, [.a (.lit (.bool (okW x)))]⟩), (20, ⟨false, [.a (.lit (.bool (inr sv 0 (IntKind.i64.wrap ((x.servers.length : Int) - 1)))))]⟩), (28, ⟨false, [.a (.lit (.bool (inr row 0 (IntKind.i64.wrap (x.rows - 1)))))]⟩)] [1, 2, 3, 4, 5, 30] [] rfl (by (repeat' (first | with_reducible exact AllP.nil | with_reducible refine AllP.mk ?_ ?_ | with_reducible apply And.intro)) <;> skip; (iterate 3 (all_goals try (first | exact (c_impl_IsValidWorld x) | exact fun _ => (c_impl_IsValidWorld x) | exact fun _ _ => (c_impl_IsValidWorld x) | exact (c_impl_InRange sv 0 (IntKind.i64.wrap ((x.servers.length : Int) - 1))) | exact fun _ => (c_impl_InRange sv 0 (IntKind.i64.wrap ((x.servers.length : Int) - 1))) | exact fun _ _ => (c_impl_InRange sv 0 (IntKind.i64.wrap ((x.servers.length : Int) - 1))) | exact (c_impl_InRange row 0 (IntKind.i64.wrap (x.rows - 1))) | exact fun _ => (c_impl_InRange row 0 (IntKind.i64.wrap (x.rows - 1))) | exact fun _ _ => (c_impl_InRange row 0 (IntKind.i64.wrap (x.rows - 1)))))); all_goals (first | (intros; omega) | exact rfl | exact El_all _ (by decide) | exact ⟨rfl, El_all _ (by decide)⟩ | ((intro h1; first | (intro h2; first | (intro h3; refine And.intro ?_ ?_) | refine And.intro ?_ ?_) | refine And.intro ?_ ?_) <;> first | omega | ((try simp only [nb, inr_t, inr_f] at *); (try simp (disch := omega) only [i64w]); omega)) | ((try simp only [nb, inr_t, inr_f] at *); (simp (disch := omega) only [i64w]); omega) | (refine fun _ => ?_; dsimp only [hyps, imps]; omega) | (refine fun _ _ => ?_; dsimp only [hyps, imps]; omega) | exact (u8w _).1 | exact (u8w _).2 | exact (u8n _).1 | exact (u8n _).2 | (simp only [byt, maxLen, lens]; omega) | (intros; simp only [nb] at *; omega))) ?_
  refine W.cond rfl (fun hb0 => ?_) (fun hb0 => ?_)
  · have hk : svOK x sv row = false := or_no1 hb0 (by simp only [svOK, ite_tt, ite_ff, gt_iff_lt, ge_iff_le, not_dlt, not_dle, bne_not, deq, decide_not, ne_eq, Bool.not_and, Bool.not_or, Bool.not_not, Bool.and_true, Bool.true_and, Bool.or_false, Bool.false_or, Int.toNat_natCast] <;> first | rfl | ac_rfl)
    refine W.seq ?_
    refine W.reg X [] [] [10] [] rfl ⟨⟩ ?_
    refine W.ret ?_
    exact Fin.ret rfl ⟨by rw [selView, if_neg (by rw [hk]; decide)], ⟨⟩⟩
  · have hk : svOK x sv row = true := or_yes hb0 (by simp only [svOK, ite_tt, ite_ff, gt_iff_lt, ge_iff_le, not_dlt, not_dle, bne_not, deq, decide_not, ne_eq, Bool.not_and, Bool.not_or, Bool.not_not, Bool.and_true, Bool.true_and, Bool.or_false, Bool.false_or, Int.toNat_natCast] <;> first | rfl | ac_rfl)
    have hq := query_len r s hk
    have hq2 : (query x r row s).length = x.servers.length := hq
    have hsl := svOK_sv hk
    have hrl := rseeds_len x.servers.length r row s
    refine W.skip ?_
    refine W.seq ?_
    refine W.draw X [] [(38, ⟨true, [.a (.sl .int (rseeds x.servers.length r row s))]⟩), (39, ⟨true, [.a (.sl (.sl .int) (makeQ x.rows row (rseeds x.servers.length r row s)))]⟩)] [10] [] 13 MO (by kernel_rfl) rfl (by (repeat' (first | with_reducible exact AllP.nil | with_reducible refine AllP.mk ?_ ?_ | with_reducible apply And.intro)) <;> skip; (iterate 2 (all_goals try (first | exact (c_impl_readSeeds x r row s (by first | assumption | omega | (simp; done) | (simp; omega))) | exact fun _ => (c_impl_readSeeds x r row s (by first | assumption | omega | (simp; done) | (simp; omega))) | exact fun _ _ => (c_impl_readSeeds x r row s (by first | assumption | omega | (simp; done) | (simp; omega))) | exact (c_impl_MakeQuery x.rows row (rseeds x.servers.length r row s) (by first | assumption | omega | (simp; done) | (simp; omega))) | exact fun _ => (c_impl_MakeQuery x.rows row (rseeds x.servers.length r row s) (by first | assumption | omega | (simp; done) | (simp; omega))) | exact fun _ _ => (c_impl_MakeQuery x.rows row (rseeds x.servers.length r row s) (by first | assumption | omega | (simp; done) | (simp; omega)))))); all_goals (first | (intros; omega) | exact rfl | exact El_all _ (by decide) | exact ⟨rfl, El_all _ (by decide)⟩ | ((intro h1; first | (intro h2; first | (intro h3; refine And.intro ?_ ?_) | refine And.intro ?_ ?_) | refine And.intro ?_ ?_) <;> first | omega | ((try simp only [nb, inr_t, inr_f] at *); (try simp (disch := omega) only [i64w]); omega)) | ((try simp only [nb, inr_t, inr_f] at *); (simp (disch := omega) only [i64w]); omega) | (refine fun _ => ?_; dsimp only [hyps, imps]; omega) | (refine fun _ _ => ?_; dsimp only [hyps, imps]; omega) | exact (u8w _).1 | exact (u8w _).2 | exact (u8n _).1 | exact (u8n _).2 | (simp only [byt, maxLen, lens]; omega) | (intros; simp only [nb] at *; omega))) ?_
    refine W.ret ?_
    exact Fin.ret rfl ⟨by rw [selView, if_pos hk]; rfl, ⟨⟩⟩
theorem c_spec_l35Query (x : Wld) (r row s : Int) (hsv : x.servers.length ≤ 1048576) : Sound ty Tryz.prog 72 [.agg (dec_Wld x), .a (.lit (.int .i64 r)), .a (.lit (.int .i64 row)), .a (.lit (.int .i64 s))] [.a (.sl (.sl .int) (query x r row s))] := by
  refine Sound.of X Tryz.call72 Tryz.func72 rfl rfl (by decide) Tryz.ntmps72 (by simp) ?_
  intro zb
  have hw : IntKind.i64.wrap ((x.servers.length : Int) - 1) = (x.servers.length : Int) - 1 := i64w (by omega)
  refine W.seq ?_
  refine W.reg X [] [] [1, 2, 3, 4] [] rfl ⟨⟩ ?_
  refine W.seq ?_
  refine W.reg X [] [] [1, 2, 3, 4, 9] [] rfl (by (repeat' (first | exact True.intro | apply And.intro)) <;> first | (intros; omega) | exact rfl | exact El_all _ (by decide) | exact ⟨rfl, El_all _ (by decide)⟩ | ((intro h1; first | (intro h2; first | (intro h3; refine And.intro ?_ ?_) | refine And.intro ?_ ?_) | refine And.intro ?_ ?_) <;> first | omega | ((try simp only [nb, inr_t, inr_f] at *); (try simp (disch := omega) only [i64w]); omega)) | ((try simp only [nb, inr_t, inr_f] at *); (simp (disch := omega) only [i64w]); omega) | (refine fun _ => ?_; dsimp only [hyps, imps]; omega) | (refine fun _ _ => ?_; dsimp only [hyps, imps]; omega) | exact (u8w _).1 | exact (u8w _).2 | exact (u8n _).1 | exact (u8n _).2 | (simp only [byt, maxLen, lens]; omega) | (intros; simp only [nb] at *; omega)) ?_
  refine W.seq ?_
  refine W.seq ?_
  refine W.reg X [] [] [1, 2, 3, 4, 9, 10] [] rfl ⟨⟩ ?_
  refine W.block ?_
  refine W.loopO (fun k => k ≤ (x.servers.length - 1)) (fun k : Nat => [(10, .one (.a (.lit (.int .i64 k))))]) (fun k => [(11, .arr .int ((rseeds x.servers.length r row s).take k))]) (fun k => (x.servers.length - 1) - k) 0 (fun k => rfl) (Nat.zero_le _) rfl ?_
  intro k hk
  have hle := take_le_len (rseeds x.servers.length r row s) k
  have hrl := rseeds_len x.servers.length r row s
  refine W.seq ?_
  refine W.seq ?_
  refine W.reg X [] [] [1, 2, 3, 4, 9, 10, 17] [] rfl ⟨⟩ ?_
  refine W.cond rfl (fun hb0 => ?_) (fun hb0 => ?_)
  · try simp only [nb, inr_t, inr_f, isEmpty_t] at hb0
    rw [hw] at hb0
    have hs := rseeds_step x.servers.length r row s k (by omega)
    refine W.skip ?_
    refine W.seq ?_
    refine W.block ?_
    refine W.reg X [(28, 11)] [(26, ⟨false, [.a (.lit (.int .i64 (kh s [229, r, row, (k : Int)])))]⟩)] [1, 2, 3, 4, 9, 10] [] rfl (by (repeat' (first | with_reducible exact AllP.nil | with_reducible refine AllP.mk ?_ ?_ | with_reducible apply And.intro)) <;> skip; (iterate 1 (all_goals try (first | exact (c_spec_KeyedHash s [229, r, row, (k : Int)] (by first | assumption | omega | (simp; done) | (simp; omega))) | exact fun _ => (c_spec_KeyedHash s [229, r, row, (k : Int)] (by first | assumption | omega | (simp; done) | (simp; omega))) | exact fun _ _ => (c_spec_KeyedHash s [229, r, row, (k : Int)] (by first | assumption | omega | (simp; done) | (simp; omega)))))); all_goals (first | (intros; omega) | exact rfl | exact El_all _ (by decide) | exact ⟨rfl, El_all _ (by decide)⟩ | ((intro h1; first | (intro h2; first | (intro h3; refine And.intro ?_ ?_) | refine And.intro ?_ ?_) | refine And.intro ?_ ?_) <;> first | omega | ((try simp only [nb, inr_t, inr_f] at *); (try simp (disch := omega) only [i64w]); omega)) | ((try simp only [nb, inr_t, inr_f] at *); (simp (disch := omega) only [i64w]); omega) | (refine fun _ => ?_; dsimp only [hyps, imps]; omega) | (refine fun _ _ => ?_; dsimp only [hyps, imps]; omega) | exact (u8w _).1 | exact (u8w _).2 | exact (u8n _).1 | exact (u8n _).2 | (simp only [byt, maxLen, lens]; omega) | (intros; simp only [nb] at *; omega))) ?_
    refine W.reg X [] [] [1, 2, 3, 4, 9, 10] [] rfl ⟨⟩ ?_
    refine ⟨k + 1, by omega, by omega, ?_⟩
    rw [wadd _ k rfl (by omega), hs]
    try rfl
  · try simp only [nb, inr_t, inr_f, isEmpty_t] at hb0
    rw [hw] at hb0
    refine W.exit ?_
    refine W.seq ?_
    rw [List.take_of_length_le (show (rseeds x.servers.length r row s).length ≤ k by omega)]
    refine W.reg X [] [(33, ⟨true, [.a (.sl (.sl .int) (makeQ x.rows row (rseeds x.servers.length r row s)))]⟩)] [8] [] rfl (by (repeat' (first | with_reducible exact AllP.nil | with_reducible refine AllP.mk ?_ ?_ | with_reducible apply And.intro)) <;> skip; (iterate 1 (all_goals try (first | exact (c_spec_MakeQuery x.rows row (rseeds x.servers.length r row s) (by first | assumption | omega | (simp; done) | (simp; omega))) | exact fun _ => (c_spec_MakeQuery x.rows row (rseeds x.servers.length r row s) (by first | assumption | omega | (simp; done) | (simp; omega))) | exact fun _ _ => (c_spec_MakeQuery x.rows row (rseeds x.servers.length r row s) (by first | assumption | omega | (simp; done) | (simp; omega)))))); all_goals (first | (intros; omega) | exact rfl | exact El_all _ (by decide) | exact ⟨rfl, El_all _ (by decide)⟩ | ((intro h1; first | (intro h2; first | (intro h3; refine And.intro ?_ ?_) | refine And.intro ?_ ?_) | refine And.intro ?_ ?_) <;> first | omega | ((try simp only [nb, inr_t, inr_f] at *); (try simp (disch := omega) only [i64w]); omega)) | ((try simp only [nb, inr_t, inr_f] at *); (simp (disch := omega) only [i64w]); omega) | (refine fun _ => ?_; dsimp only [hyps, imps]; omega) | (refine fun _ _ => ?_; dsimp only [hyps, imps]; omega) | exact (u8w _).1 | exact (u8w _).2 | exact (u8n _).1 | exact (u8n _).2 | (simp only [byt, maxLen, lens]; omega) | (intros; simp only [nb] at *; omega))) ?_
    refine W.ret ?_
    exact Fin.ret rfl ⟨rfl, ⟨⟩⟩
theorem c_spec_SelectionView (x : Wld) (sv r row s : Int) (hsv : x.servers.length ≤ 1048576) : Sound ty Tryz.prog 18 [.agg (dec_Wld x), .a (.lit (.int .i64 sv)), .a (.lit (.int .i64 r)), .a (.lit (.int .i64 row)), .a (.lit (.int .i64 s))] [.a (.vw 0 none .int (selView x sv r row s))] := by
  refine Sound.of X Tryz.call18 Tryz.func18 rfl rfl (by decide) Tryz.ntmps18 (by simp) ?_
  intro zb
  refine W.boundA 0 1 rfl rfl (fun hl1 => ?_)
  refine W.seq ?_
  refine W.reg X [] [] [1, 2, 3, 4, 5] [] rfl ⟨⟩ ?_
  refine W.seq ?_
  refine W.seq ?_
  refine W.reg X [] [(12, ⟨false, [.a (.lit (.bool (okW x)))]⟩), (20, ⟨false, [.a (.lit (.bool (inr sv 0 (IntKind.i64.wrap ((x.servers.length : Int) - 1)))))]⟩), (28, ⟨false, [.a (.lit (.bool (inr row 0 (IntKind.i64.wrap (x.rows - 1)))))]⟩)] [1, 2, 3, 4, 5, 30] [] rfl (by (repeat' (first | with_reducible exact AllP.nil | with_reducible refine AllP.mk ?_ ?_ | with_reducible apply And.intro)) <;> skip; (iterate 3 (all_goals try (first | exact (c_spec_IsValidWorld x) | exact fun _ => (c_spec_IsValidWorld x) | exact fun _ _ => (c_spec_IsValidWorld x) | exact (c_spec_l1In sv 0 (IntKind.i64.wrap ((x.servers.length : Int) - 1))) | exact fun _ => (c_spec_l1In sv 0 (IntKind.i64.wrap ((x.servers.length : Int) - 1))) | exact fun _ _ => (c_spec_l1In sv 0 (IntKind.i64.wrap ((x.servers.length : Int) - 1))) | exact (c_spec_l1In row 0 (IntKind.i64.wrap (x.rows - 1))) | exact fun _ => (c_spec_l1In row 0 (IntKind.i64.wrap (x.rows - 1))) | exact fun _ _ => (c_spec_l1In row 0 (IntKind.i64.wrap (x.rows - 1)))))); all_goals (first | (intros; omega) | exact rfl | exact El_all _ (by decide) | exact ⟨rfl, El_all _ (by decide)⟩ | ((intro h1; first | (intro h2; first | (intro h3; refine And.intro ?_ ?_) | refine And.intro ?_ ?_) | refine And.intro ?_ ?_) <;> first | omega | ((try simp only [nb, inr_t, inr_f] at *); (try simp (disch := omega) only [i64w]); omega)) | ((try simp only [nb, inr_t, inr_f] at *); (simp (disch := omega) only [i64w]); omega) | (refine fun _ => ?_; dsimp only [hyps, imps]; omega) | (refine fun _ _ => ?_; dsimp only [hyps, imps]; omega) | exact (u8w _).1 | exact (u8w _).2 | exact (u8n _).1 | exact (u8n _).2 | (simp only [byt, maxLen, lens]; omega) | (intros; simp only [nb] at *; omega))) ?_
  refine W.cond rfl (fun hb0 => ?_) (fun hb0 => ?_)
  · have hk : svOK x sv row = false := or_no1 hb0 (by simp only [svOK, ite_tt, ite_ff, gt_iff_lt, ge_iff_le, not_dlt, not_dle, bne_not, deq, decide_not, ne_eq, Bool.not_and, Bool.not_or, Bool.not_not, Bool.and_true, Bool.true_and, Bool.or_false, Bool.false_or, Int.toNat_natCast] <;> first | rfl | ac_rfl)
    refine W.seq ?_
    refine W.reg X [] [] [10] [] rfl (by (repeat' (first | exact True.intro | apply And.intro)) <;> first | (intros; omega) | exact rfl | exact El_all _ (by decide) | exact ⟨rfl, El_all _ (by decide)⟩ | ((intro h1; first | (intro h2; first | (intro h3; refine And.intro ?_ ?_) | refine And.intro ?_ ?_) | refine And.intro ?_ ?_) <;> first | omega | ((try simp only [nb, inr_t, inr_f] at *); (try simp (disch := omega) only [i64w]); omega)) | ((try simp only [nb, inr_t, inr_f] at *); (simp (disch := omega) only [i64w]); omega) | (refine fun _ => ?_; dsimp only [hyps, imps]; omega) | (refine fun _ _ => ?_; dsimp only [hyps, imps]; omega) | exact (u8w _).1 | exact (u8w _).2 | exact (u8n _).1 | exact (u8n _).2 | (simp only [byt, maxLen, lens]; omega) | (intros; simp only [nb] at *; omega)) ?_
    refine W.ret ?_
    exact Fin.ret rfl ⟨by rw [selView, if_neg (by rw [hk]; decide)], ⟨⟩⟩
  · have hk : svOK x sv row = true := or_yes hb0 (by simp only [svOK, ite_tt, ite_ff, gt_iff_lt, ge_iff_le, not_dlt, not_dle, bne_not, deq, decide_not, ne_eq, Bool.not_and, Bool.not_or, Bool.not_not, Bool.and_true, Bool.true_and, Bool.or_false, Bool.false_or, Int.toNat_natCast] <;> first | rfl | ac_rfl)
    have hq := query_len r s hk
    have hq2 : (query x r row s).length = x.servers.length := hq
    have hsl := svOK_sv hk
    have hrl := rseeds_len x.servers.length r row s
    refine W.skip ?_
    refine W.seq ?_
    refine W.reg X [] [(36, ⟨true, [.a (.sl (.sl .int) (query x r row s))]⟩)] [10] [] rfl (by (repeat' (first | with_reducible exact AllP.nil | with_reducible refine AllP.mk ?_ ?_ | with_reducible apply And.intro)) <;> skip; (iterate 1 (all_goals try (first | exact (c_spec_l35Query x r row s (by first | assumption | omega | (simp; done) | (simp; omega))) | exact fun _ => (c_spec_l35Query x r row s (by first | assumption | omega | (simp; done) | (simp; omega))) | exact fun _ _ => (c_spec_l35Query x r row s (by first | assumption | omega | (simp; done) | (simp; omega)))))); all_goals (first | (intros; omega) | exact rfl | exact El_all _ (by decide) | exact ⟨rfl, El_all _ (by decide)⟩ | ((intro h1; first | (intro h2; first | (intro h3; refine And.intro ?_ ?_) | refine And.intro ?_ ?_) | refine And.intro ?_ ?_) <;> first | omega | ((try simp only [nb, inr_t, inr_f] at *); (try simp (disch := omega) only [i64w]); omega)) | ((try simp only [nb, inr_t, inr_f] at *); (simp (disch := omega) only [i64w]); omega) | (refine fun _ => ?_; dsimp only [hyps, imps]; omega) | (refine fun _ _ => ?_; dsimp only [hyps, imps]; omega) | exact (u8w _).1 | exact (u8w _).2 | exact (u8n _).1 | exact (u8n _).2 | (simp only [byt, maxLen, lens]; omega) | (intros; simp only [nb] at *; omega))) ?_
    refine W.ret ?_
    exact Fin.ret rfl ⟨by rw [selView, if_pos hk], ⟨⟩⟩
end Go.Proofs.YtlocnjfgeifmnaaGreat.G
namespace Go.Proofs.YtlocnjfgeifmnaaGreat.G
set_option linter.all false
open Go.RowKit L D
set_option maxRecDepth 100000
theorem c_FnExactSelectionView (x0 : Wld) (h_x0 : (wf_Wld) x0) (x1 : Int) (i_x1 : I64 x1) (x2 : Int) (i_x2 : I64 x2) (x3 : Int) (i_x3 : I64 x3) (x4 : Int) (i_x4 : I64 x4) : Sound ty Tryz.prog 4 [.agg (dec_Wld x0), .a (.lit (.int .i64 x1)), .a (.lit (.int .i64 x2)), .a (.lit (.int .i64 x3)), .a (.lit (.int .i64 x4))] [.a (.lit (.bool true))] := by
  refine Sound.of X Tryz.call4 Tryz.func4 rfl rfl (by decide) Tryz.ntmps4 (by simp) ?_
  intro zb
  refine W.seq ?_
  refine W.reg X [] [] [1, 2, 3, 4, 5] [] rfl ⟨⟩ ?_
  refine W.seq ?_
  refine W.reg X [] [] [1, 2, 3, 4, 5, 11] [] rfl ⟨⟩ ?_
  refine W.seq ?_
  refine W.reg X [] [(21, ⟨false, [.a (.lit (.int .i64 (szr (1048576) (size_Wld x0))))]⟩)] [1, 2, 3, 4, 5, 11] [] rfl ⟨c_szWorld x0 (1048576) (by omega) (by omega), ⟨⟩⟩ ?_
  refine W.seq ?_
  refine W.seq ?_
  refine W.reg X [] [] [1, 2, 3, 4, 5, 23] [] rfl ⟨⟩ ?_
  refine W.cond rfl (fun hb0 => ?_) (fun hb0 => ?_)
  · try simp only [nb] at hb0
    refine W.seq ?_
    refine W.reg X [] [] [10] [] rfl ⟨⟩ ?_
    refine W.ret ?_
    exact Fin.ret rfl ⟨rfl, ⟨⟩⟩
  · try simp only [nb] at hb0
    obtain ⟨e0, e0'⟩ := szr_pos hb0
    rw [e0]
    have hsz : size_Wld x0 ≤ 1048576 := by omega
    have hmx := mnv_le_Wld x0
    have hdev := dev_le hsz
    have hsrv := srv_le hsz
    have hr : mnl (fun _ => 1) (selView x0 x1 x2 x3 x4) ≤ 64 := by rw [mnl_one]; exact selView_len x0 x1 x2 x3 x4
    refine W.skip ?_
    refine W.seq ?_
    refine W.reg X [(25, 225)] [(25, ⟨true, [.agg (dec_Wld x0)]⟩), (30, ⟨false, [.a (.vw 0 none .int (selView x0 x1 x2 x3 x4))]⟩)] [1, 2, 3, 4, 5, 12] [] rfl ⟨c_spec_SelectionView x0 x1 x2 x3 x4 hsrv, c_toWorld x0 (by omega), ⟨⟩⟩ ?_
    refine W.seq ?_
    refine W.reg X [(32, 275)] [(32, ⟨true, [.agg (dec_Wld x0)]⟩)] [1, 2, 3, 4, 5, 12, 13] [] rfl ⟨c_toWorld x0 (by omega), ⟨⟩⟩ ?_
    refine W.seq ?_
    refine W.reg X [(38, 55)] [(38, ⟨true, [.a (.vw 0 none .int (selView x0 x1 x2 x3 x4))]⟩)] [1, 2, 3, 4, 5, 12, 13, 14] [] rfl ⟨c_impl_SelectionView x0 x1 x2 x3 x4 hsrv, ⟨⟩⟩ ?_
    refine W.seq ?_
    refine W.seq ?_
    refine W.reg X [] [(41, ⟨false, [.a (.lit (.bool true))]⟩)] [1, 2, 3, 4, 5, 12, 13, 14, 42] [] rfl ⟨c_eqIntS (selView x0 x1 x2 x3 x4), ⟨⟩⟩ ?_
    refine W.cond rfl (fun hb1 => ?_) (fun hb1 => ?_)
    · exact absurd hb1 (by first | (simp; done) | (simp; omega))
    · clear hb1
      refine W.skip ?_
      refine W.seq ?_
      refine W.seq ?_
      refine W.draw X [(45, 325)] [(45, ⟨true, [.agg (dec_Wld x0)]⟩), (46, ⟨false, [.a (.lit (.bool true))]⟩)] [1, 2, 3, 4, 5, 12, 13, 14, 47] [] 5 MO (by kernel_rfl) rfl ⟨c_eqWorld x0, c_toWorld x0 (by omega), ⟨⟩⟩ ?_
      refine W.cond rfl (fun hb2 => ?_) (fun hb2 => ?_)
      · exact absurd hb2 (by first | (simp; done) | (simp; omega))
      · clear hb2
        refine W.skip ?_
        refine W.seq ?_
        refine W.reg X [] [] [1, 2, 3, 4, 5, 12, 13, 14, 15] [] rfl ⟨⟩ ?_
        refine W.seq ?_
        refine W.reg X [] [(100050, ⟨false, [.a (.lit (.int .i64 (1 + (mnv_Wld x0 : Nat)))), .agg (dec_Wld (mkv_Wld (1) x0)), .a (.lit (.int .i64 (1)))]⟩)] [1, 2, 3, 4, 5, 12, 14, 15] [] rfl ⟨c_markWorld x0 (1) (by omega) (by omega), ⟨⟩⟩ ?_
        refine W.seq ?_
        refine W.seq ?_
        refine W.reg X [] [(56, ⟨false, [.a (.lit (.bool true))]⟩)] [1, 2, 3, 4, 5, 12, 14, 58] [] rfl ⟨fun _ => c_eqIntS (selView x0 x1 x2 x3 x4), ⟨⟩⟩ ?_
        refine W.cond rfl (fun hb3 => ?_) (fun hb3 => ?_)
        · exact absurd hb3 (by first | (simp; done) | (simp; omega))
        · clear hb3
          refine W.skip ?_
          refine W.seq ?_
          refine W.reg X [] [] [1, 2, 3, 4, 5, 12, 14, 16] [] rfl ⟨⟩ ?_
          refine W.seq ?_
          refine W.reg X [] [(100061, ⟨false, [.a (.lit (.int .i64 (1 + ((mnl (fun _ => 1)) (selView x0 x1 x2 x3 x4) : Nat)))), .a (.sl .int ((mkl (fun k _ => k) (fun _ => 1)) (1) (selView x0 x1 x2 x3 x4))), .a (.lit (.int .i64 (1)))]⟩)] [1, 2, 3, 4, 5, 12, 14, 16] [] rfl ⟨c_markIntS (selView x0 x1 x2 x3 x4) (1) (by omega) (by omega), ⟨⟩⟩ ?_
          refine W.seq ?_
          refine W.reg X [] [] [1, 2, 3, 4, 5, 12, 14, 16, 17] [] rfl ⟨⟩ ?_
          refine W.seq ?_
          refine W.reg X [] [(64, ⟨false, [.a (.lit (.int .i64 (1 + ((mnl (fun _ => 1)) (selView x0 x1 x2 x3 x4) : Nat))))]⟩)] [1, 2, 3, 4, 5, 12, 14, 16, 17] [] rfl ⟨c_heldIntS (selView x0 x1 x2 x3 x4) (1) (by omega) (by omega), ⟨⟩⟩ ?_
          refine W.seq ?_
          refine W.seq ?_
          refine W.reg X [] [] [1, 2, 3, 4, 5, 12, 14, 16, 17, 66] [] rfl ⟨⟩ ?_
          refine W.cond rfl (fun hb4 => ?_) (fun hb4 => ?_)
          · exact absurd hb4 (by first | (simp; done) | (simp; omega))
          · clear hb4
            refine W.skip ?_
            refine W.seq ?_
            refine W.seq ?_
            refine W.reg X [] [] [1, 2, 3, 4, 5, 12, 14, 16, 69] [] rfl ⟨⟩ ?_
            refine W.cond rfl (fun hb5 => ?_) (fun hb5 => ?_)
            · exact absurd hb5 (by first | (simp; done) | (simp; omega))
            · clear hb5
              refine W.skip ?_
              refine W.seq ?_
              refine W.reg X [(71, 350), (76, 80)] [(71, ⟨true, [.agg (dec_Wld x0)]⟩), (76, ⟨true, [.a (.vw 0 none .int (selView x0 x1 x2 x3 x4))]⟩)] [12, 14, 16, 18] [] rfl ⟨c_impl_SelectionView x0 x1 x2 x3 x4 hsrv, c_toWorld x0 (by omega), ⟨⟩⟩ ?_
              refine W.seq ?_
              refine W.seq ?_
              refine W.reg X [] [(79, ⟨false, [.a (.lit (.bool true))]⟩)] [14, 16, 80] [] rfl ⟨c_eqIntS (selView x0 x1 x2 x3 x4), ⟨⟩⟩ ?_
              refine W.cond rfl (fun hb6 => ?_) (fun hb6 => ?_)
              · exact absurd hb6 (by first | (simp; done) | (simp; omega))
              · clear hb6
                refine W.skip ?_
                refine W.seq ?_
                refine W.reg X [] [] [14, 16, 17] [] rfl ⟨⟩ ?_
                refine W.seq ?_
                refine W.reg X [] [(83, ⟨false, [.a (.lit (.int .i64 (1 + ((mnl (fun _ => 1)) (selView x0 x1 x2 x3 x4) : Nat))))]⟩)] [16, 17] [] rfl ⟨c_heldIntS (selView x0 x1 x2 x3 x4) (1) (by omega) (by omega), ⟨⟩⟩ ?_
                refine W.seq ?_
                refine W.seq ?_
                refine W.reg X [] [] [16, 17, 85] [] rfl ⟨⟩ ?_
                refine W.cond rfl (fun hb7 => ?_) (fun hb7 => ?_)
                · exact absurd hb7 (by first | (simp; done) | (simp; omega))
                · clear hb7
                  refine W.skip ?_
                  refine W.seq ?_
                  refine W.seq ?_
                  refine W.reg X [] [] [88] [] rfl ⟨⟩ ?_
                  refine W.cond rfl (fun hb8 => ?_) (fun hb8 => ?_)
                  · exact absurd hb8 (by first | (simp; done) | (simp; omega))
                  · clear hb8
                    refine W.skip ?_
                    refine W.seq ?_
                    refine W.reg X [] [] [10] [] rfl ⟨⟩ ?_
                    refine W.ret ?_
                    exact Fin.ret rfl ⟨rfl, ⟨⟩⟩
end Go.Proofs.YtlocnjfgeifmnaaGreat.G
