/-
  FnExactGuiltyServers, walked by the symbolic machine: it returns true.
-/
import Derived.Test.YthjedjndamejmaaGreatZGuiltyServersM10
import Derived.Test.YthjedjndamejmaaGreatZGuiltyServersM11
import Derived.Test.YthjedjndamejmaaGreatZGuiltyServersM8
namespace Go.Proofs.YthjedjndamejmaaGreat.G
set_option linter.all false
open Go.RowKit L D
set_option maxRecDepth 100000
theorem c_impl_sumOf (rows : Int) (l : List RShare) (hz : ∀ r, r ∈ l → lsz List.length r.share.rows ≤ 1048576) : Sound ty Tryz.prog 166 [.a (.lit (.int .i64 rows)), .a (.sl .RShare l)] [.agg (dec_DB (sumL rows l))] := by
  refine Sound.of X Tryz.call166 Tryz.func166 rfl rfl (by decide) Tryz.ntmps166 (by simp) ?_
  intro zb
  refine W.bound 1 rfl (fun hll => ?_)
  refine W.seq ?_
  refine W.reg X [] [] [0, 1, 4] [] rfl ⟨⟩ ?_
  refine W.seq ?_
  refine W.reg X [] [(9, ⟨true, [.agg (dec_DB (newDB rows))]⟩)] [1, 4, 5] [] rfl (by (repeat' (first | with_reducible exact AllP.nil | with_reducible refine AllP.mk ?_ ?_ | with_reducible apply And.intro)) <;> skip; (iterate 1 (all_goals try (first | exact (c_impl_NewDatabase rows))))) ?_
  refine W.seq ?_
  refine W.seq ?_
  refine W.reg X [] [] [4, 5, 10, 11, 12] [] rfl ⟨⟩ ?_
  refine W.block ?_
  refine W.loopO (fun k => k ≤ l.length) (fun k : Nat => [(12, .one (.a (.lit (.int .i64 k))))]) (fun k => [(9, .arr (.sl .u8) (sumL rows (l.take k)).rows)]) (fun k => l.length - k) 0 (fun k => rfl) (Nat.zero_le _) rfl ?_
  intro k hk
  refine W.seq ?_
  refine W.reg X [] [] [4, 5, 10, 11, 12, 13] [] rfl ⟨⟩ ?_
  refine W.seq ?_
  refine W.cond rfl (fun hb0 => ?_) (fun hb0 => ?_)
  · try simp only [nb, inr_t, inr_f, isEmpty_t] at hb0
    have hs := sumL_step rows l k hb0
    refine W.skip ?_
    refine W.seq ?_
    refine W.block ?_
    refine W.seq ?_
    refine W.reg X [] [] [4, 5, 7, 10, 11, 12] [] rfl (by (repeat' (first | exact True.intro | apply And.intro)) <;> first | (intros; omega)) ?_
    refine W.reg X [] [(20, ⟨true, [.agg (dec_DB (xorDB (sumL rows (l.take k)) ((l.getD k (dfl .RShare)).share))), .a (.lit (.bool (xdOK (sumL rows (l.take k)) ((l.getD k (dfl .RShare)).share))))]⟩)] [4, 5, 10, 11, 12] [] rfl (by (repeat' (first | with_reducible exact AllP.nil | with_reducible refine AllP.mk ?_ ?_ | with_reducible apply And.intro)) <;> skip; (iterate 1 (all_goals try (first | exact (c_impl_XorDatabases (sumL rows (l.take k)) ((l.getD k (dfl .RShare)).share) (sum_lsz _ _) (hz _ (getD_in _ hb0))))))) ?_
    refine W.renameB 5 0 9 rfl ?_
    refine W.reg X [] [] [4, 5, 10, 11, 12] [] rfl ⟨⟩ ?_
    refine ⟨k + 1, by omega, by omega, ?_⟩
    rw [wadd _ k rfl (by omega), hs]
    try rfl
  · try simp only [nb, inr_t, inr_f, isEmpty_t] at hb0
    refine W.exit ?_
    refine W.seq ?_
    refine W.reg X [] [] [4] [] rfl (by (repeat' (first | exact True.intro | apply And.intro))) ?_
    refine W.ret ?_
    exact Fin.ret rfl ⟨by rw [List.take_of_length_le hb0], ⟨⟩⟩
theorem c_spec_l25Sum (s : Srv) (f : Nat) (hf : f ≤ 8) (hz : ∀ r, r ∈ s.received → lsz List.length r.share.rows ≤ 1048576) : Sound ty Tryz.prog 161 [.agg (dec_Srv s), .a (.lit (.int .i64 ((f : Nat) : Int)))] [.agg (dec_DB (sumL s.rows (s.received.drop f)))] := by
  refine Sound.of X Tryz.call161 Tryz.func161 rfl rfl (by decide) Tryz.ntmps161 (by simp) ?_
  intro zb
  refine W.boundA 0 3 rfl rfl (fun hll => ?_)
  refine W.seq ?_
  refine W.reg X [] [] [1, 2, 4] [] rfl ⟨⟩ ?_
  refine W.seq ?_
  refine W.reg X [] [(11, ⟨true, [.agg (dec_DB (newDB s.rows))]⟩)] [1, 2, 4, 5] [] rfl (by (repeat' (first | with_reducible exact AllP.nil | with_reducible refine AllP.mk ?_ ?_ | with_reducible apply And.intro)) <;> skip; (iterate 1 (all_goals try (first | exact (c_spec_NewDatabase s.rows))))) ?_
  refine W.seq ?_
  refine W.seq ?_
  refine W.reg X [] [] [2, 4, 5, 6] [] rfl ⟨⟩ ?_
  refine W.block ?_
  refine W.loopO (fun k => f ≤ k ∧ (k ≤ s.received.length ∨ k = f)) (fun k : Nat => [(6, .one (.a (.lit (.int .i64 k))))]) (fun k => [(11, .arr (.sl .u8) (sumL s.rows ((s.received.drop f).take (k - f))).rows)]) (fun k => s.received.length - k) f (fun k => rfl) ⟨Nat.le_refl _, Or.inr rfl⟩ (by simp [sumL]) ?_
  rintro k ⟨hk, hk2⟩
  refine W.seq ?_
  refine W.seq ?_
  refine W.reg X [] [] [2, 4, 5, 6, 17] [] rfl ⟨⟩ ?_
  refine W.cond rfl (fun hb0 => ?_) (fun hb0 => ?_)
  · try simp only [nb, inr_t, inr_f, isEmpty_t] at hb0
    have hs := sumD_step s.rows s.received f k hb0 hk
    refine W.skip ?_
    refine W.seq ?_
    refine W.block ?_
    refine W.seq ?_
    refine W.drawK X [] [(28, ⟨true, [.agg (dec_DB (xorDB (sumL s.rows ((s.received.drop f).take (k - f))) ((s.received.getD k (dfl .RShare)).share))), .a (.lit (.bool (xdOK (sumL s.rows ((s.received.drop f).take (k - f))) ((s.received.getD k (dfl .RShare)).share))))]⟩)] [2, 4, 5, 6, 7] [] 12287 (.ph 4095 (.br 4095 12 (.last 8192) (.br 3071 12 (.last 9216) (.nil)))) 1 MO (by kernel_rfl) rfl (by kernel_rfl) (by (repeat' (first | with_reducible exact AllP.nil | with_reducible refine AllP.mk ?_ ?_ | with_reducible apply And.intro)) <;> skip; (iterate 1 (all_goals try (first | exact (c_spec_XorDatabases (sumL s.rows ((s.received.drop f).take (k - f))) ((s.received.getD k (dfl .RShare)).share) (sum_lsz _ _) (hz _ (getD_in _ hb0)))))); all_goals (first | (intros; omega))) ?_
    refine W.reg X [] [] [2, 4, 5, 6] [] rfl (by (repeat' (first | exact True.intro | apply And.intro))) ?_
    refine W.renameB 5 0 11 rfl ?_
    refine W.reg X [] [] [2, 4, 5, 6] [] rfl ⟨⟩ ?_
    refine ⟨k + 1, by omega, by omega, ?_⟩
    rw [wadd _ k rfl (by omega), hs]
    try rfl
  · try simp only [nb, inr_t, inr_f, isEmpty_t] at hb0
    refine W.exit ?_
    refine W.seq ?_
    refine W.reg X [] [] [4] [] rfl (by (repeat' (first | exact True.intro | apply And.intro))) ?_
    refine W.ret ?_
    exact Fin.ret rfl ⟨by rw [sumD_end _ _ _ _ hb0], ⟨⟩⟩
theorem c_impl_SumOfShares (s : Srv) : Sound ty Tryz.prog 165 [.agg (dec_Srv s)] [.agg (dec_DB (sumS s))] := by
  refine Sound.of X Tryz.call165 Tryz.func165 rfl rfl (by decide) Tryz.ntmps165 (by simp) ?_
  intro zb
  refine W.seq ?_
  refine W.reg X [] [] [1, 2] [] rfl ⟨⟩ ?_
  refine W.seq ?_
  refine W.seq ?_
  refine W.reg X [] [(4, ⟨false, [.a (.lit (.bool (okSrv s)))]⟩)] [1, 2, 5] [] rfl (by (repeat' (first | with_reducible exact AllP.nil | with_reducible refine AllP.mk ?_ ?_ | with_reducible apply And.intro)) <;> skip; (iterate 1 (all_goals try (first | exact (c_impl_IsValidServer s))))) ?_
  refine W.cond rfl (fun hb0 => ?_) (fun hb0 => ?_)
  · have hk : okSrv s = false := by simpa using hb0
    refine W.seq ?_
    refine W.reg X [] [] [2] [] rfl (by (repeat' (first | exact True.intro | apply And.intro))) ?_
    refine W.ret ?_
    exact Fin.ret rfl ⟨by rw [sumS, hk]; rfl, ⟨⟩⟩
  · have hk : okSrv s = true := by simpa using hb0
    have hsz := okSrv_sh hk
    refine W.skip ?_
    refine W.seq ?_
    refine W.reg X [] [(11, ⟨true, [.agg (dec_DB (sumL s.rows s.received))]⟩)] [2] [] rfl (by (repeat' (first | with_reducible exact AllP.nil | with_reducible refine AllP.mk ?_ ?_ | with_reducible apply And.intro)) <;> skip; (iterate 1 (all_goals try (first | exact (c_impl_sumOf s.rows s.received hsz))))) ?_
    refine W.ret ?_
    exact Fin.ret rfl ⟨by rw [sumS, if_pos hk], ⟨⟩⟩
theorem c_spec_SumOfShares (s : Srv) : Sound ty Tryz.prog 160 [.agg (dec_Srv s)] [.agg (dec_DB (sumS s))] := by
  refine Sound.of X Tryz.call160 Tryz.func160 rfl rfl (by decide) Tryz.ntmps160 (by simp) ?_
  intro zb
  refine W.seq ?_
  refine W.reg X [] [] [1, 2] [] rfl ⟨⟩ ?_
  refine W.seq ?_
  refine W.seq ?_
  refine W.reg X [] [(4, ⟨false, [.a (.lit (.bool (okSrv s)))]⟩)] [1, 2, 5] [] rfl (by (repeat' (first | with_reducible exact AllP.nil | with_reducible refine AllP.mk ?_ ?_ | with_reducible apply And.intro)) <;> skip; (iterate 1 (all_goals try (first | exact (c_spec_IsValidServer s))))) ?_
  refine W.cond rfl (fun hb0 => ?_) (fun hb0 => ?_)
  · have hk : okSrv s = false := by simpa using hb0
    refine W.seq ?_
    refine W.reg X [] [] [2] [] rfl (by (repeat' (first | exact True.intro | apply And.intro))) ?_
    refine W.ret ?_
    exact Fin.ret rfl ⟨by rw [sumS, hk]; rfl, ⟨⟩⟩
  · have hk : okSrv s = true := by simpa using hb0
    have hsz := okSrv_sh hk
    refine W.skip ?_
    refine W.seq ?_
    refine W.reg X [] [(8, ⟨true, [.agg (dec_DB (sumL s.rows (s.received.drop 0)))]⟩)] [2] [] rfl (by (repeat' (first | with_reducible exact AllP.nil | with_reducible refine AllP.mk ?_ ?_ | with_reducible apply And.intro)) <;> skip; (iterate 1 (all_goals try (first | exact (c_spec_l25Sum s 0 (by decide) hsz))))) ?_
    refine W.ret ?_
    exact Fin.ret rfl ⟨by rw [sumS, if_pos hk]; rfl, ⟨⟩⟩
theorem c_impl_PublishShare (s : Srv) : Sound ty Tryz.prog 108 [.agg (dec_Srv s)] [.agg (dec_DB (pubS s))] := by
  refine Sound.of X Tryz.call108 Tryz.func108 rfl rfl (by decide) Tryz.ntmps108 (by simp) ?_
  intro zb
  refine W.seq ?_
  refine W.reg X [] [] [1, 2] [] rfl ⟨⟩ ?_
  refine W.seq ?_
  refine W.seq ?_
  refine W.reg X [] [(6, ⟨false, [.a (.lit (.bool (okSrv s)))]⟩)] [1, 2, 7] [] rfl (by (repeat' (first | with_reducible exact AllP.nil | with_reducible refine AllP.mk ?_ ?_ | with_reducible apply And.intro)) <;> skip; (iterate 1 (all_goals try (first | exact (c_impl_IsValidServer s))))) ?_
  refine W.cond rfl (fun hb0 => ?_) (fun hb0 => ?_)
  · have hk : okSrv s = false := by simpa using hb0
    refine W.seq ?_
    refine W.reg X [] [] [2] [] rfl (by (repeat' (first | exact True.intro | apply And.intro))) ?_
    refine W.ret ?_
    exact Fin.ret rfl ⟨by rw [pubS, hk]; rfl, ⟨⟩⟩
  · have hk : okSrv s = true := by simpa using hb0
    have hsz := okSrv_sh hk
    have hin := pub_in hk
    refine W.skip ?_
    refine W.seq ?_
    refine W.reg X [] [] [1, 2, 3] [] rfl ⟨⟩ ?_
    refine W.seq ?_
    refine W.seq ?_
    refine W.reg X [] [] [1, 2, 3, 13] [] rfl ⟨⟩ ?_
    refine W.cond rfl (fun hb1 => ?_) (fun hb1 => ?_)
    · try simp only [nb, inr_t, inr_f, isEmpty_t] at hb1
      have hr := rcvd_drop s (by omega)
      have hll := (okSrv_b hk).2
      have hmi := mini_b 1 (s.received.length : Int)
      refine W.reg X [] [] [1, 2, 3] [] rfl (by (repeat' (first | exact True.intro | apply And.intro)) <;> first | (intros; omega)) ?_
      rw [show List.take ((s.received.length : Int)).toNat s.received = s.received by simp, drop_min, ← hr]
      refine W.seq ?_
      refine W.reg X [] [(22, ⟨true, [.agg (dec_DB (sumL s.rows (rcvd s)))]⟩)] [1, 2, 4] [] rfl (by (repeat' (first | with_reducible exact AllP.nil | with_reducible refine AllP.mk ?_ ?_ | with_reducible apply And.intro)) <;> skip; (iterate 1 (all_goals try (first | exact (c_impl_sumOf s.rows (rcvd s) (fun r hr2 => hsz r (rcvd_sub s r hr2))))))) ?_
      refine W.seq ?_
      refine W.seq ?_
      refine W.reg X [] [] [2, 4, 25] [] rfl ⟨⟩ ?_
      refine W.cond rfl (fun hb2 => ?_) (fun hb2 => ?_)
      · try simp only [nb, inr_t, inr_f, isEmpty_t] at hb2
        omega
      · try simp only [nb, inr_t, inr_f, isEmpty_t] at hb2
        refine W.skip ?_
        refine W.seq ?_
        refine W.reg X [] [] [2] [] rfl (by (repeat' (first | exact True.intro | apply And.intro))) ?_
        refine W.ret ?_
        exact Fin.ret rfl ⟨by rw [pubS, if_pos hk, if_neg (by omega)], ⟨⟩⟩
    · try simp only [nb, inr_t, inr_f, isEmpty_t] at hb1
      have hr := rcvd_all s (by omega)
      rw [hr] at hin
      have hin2 : 0 < ((sumL s.rows s.received).rows.getD (Int.toNat 0) (dfl (.sl .u8))).length := hin.2
      refine W.skip ?_
      refine W.seq ?_
      refine W.reg X [] [(22, ⟨true, [.agg (dec_DB (sumL s.rows s.received))]⟩)] [1, 2, 4] [] rfl (by (repeat' (first | with_reducible exact AllP.nil | with_reducible refine AllP.mk ?_ ?_ | with_reducible apply And.intro)) <;> skip; (iterate 1 (all_goals try (first | exact (c_impl_sumOf s.rows s.received hsz))))) ?_
      refine W.seq ?_
      refine W.seq ?_
      refine W.reg X [] [] [2, 4, 25] [] rfl ⟨⟩ ?_
      refine W.cond rfl (fun hb2 => ?_) (fun hb2 => ?_)
      · try simp only [nb, inr_t, inr_f, isEmpty_t] at hb2
        have hb2x : s.behavior = 2 := by omega
        refine W.reg X [] [] [2, 4] [] rfl (by (repeat' (first | exact True.intro | apply And.intro)) <;> first | (intros; omega) | exact (u8w _).1 | exact (u8w _).2) ?_
        refine W.seq ?_
        refine W.reg X [] [] [2] [] rfl (by (repeat' (first | exact True.intro | apply And.intro))) ?_
        refine W.ret ?_
        exact Fin.ret rfl ⟨by rw [pubS, if_pos hk, if_pos (by omega), hr]; exact alt_eq _, ⟨⟩⟩
      · try simp only [nb, inr_t, inr_f, isEmpty_t] at hb2
        refine W.skip ?_
        refine W.seq ?_
        refine W.reg X [] [] [2] [] rfl (by (repeat' (first | exact True.intro | apply And.intro))) ?_
        refine W.ret ?_
        exact Fin.ret rfl ⟨by rw [pubS, if_pos hk, if_neg (by omega), hr], ⟨⟩⟩
theorem c_spec_PublishShare (s : Srv) : Sound ty Tryz.prog 106 [.agg (dec_Srv s)] [.agg (dec_DB (pubS s))] := by
  refine Sound.of X Tryz.call106 Tryz.func106 rfl rfl (by decide) Tryz.ntmps106 (by simp) ?_
  intro zb
  refine W.seq ?_
  refine W.reg X [] [] [1, 2] [] rfl ⟨⟩ ?_
  refine W.seq ?_
  refine W.seq ?_
  refine W.reg X [] [(5, ⟨false, [.a (.lit (.bool (okSrv s)))]⟩)] [1, 2, 6] [] rfl (by (repeat' (first | with_reducible exact AllP.nil | with_reducible refine AllP.mk ?_ ?_ | with_reducible apply And.intro)) <;> skip; (iterate 1 (all_goals try (first | exact (c_spec_IsValidServer s))))) ?_
  refine W.cond rfl (fun hb0 => ?_) (fun hb0 => ?_)
  · have hk : okSrv s = false := by simpa using hb0
    refine W.seq ?_
    refine W.reg X [] [] [2] [] rfl (by (repeat' (first | exact True.intro | apply And.intro))) ?_
    refine W.ret ?_
    exact Fin.ret rfl ⟨by rw [pubS, hk]; rfl, ⟨⟩⟩
  · have hk : okSrv s = true := by simpa using hb0
    have hsz := okSrv_sh hk
    have hin := pub_in hk
    refine W.skip ?_
    refine W.seq ?_
    refine W.seq ?_
    refine W.reg X [] [] [1, 2, 9] [] rfl ⟨⟩ ?_
    refine W.block ?_
    refine W.seq ?_
    refine W.reg X [] [] [1, 2, 9, 10] [] rfl ⟨⟩ ?_
    refine W.cond rfl (fun hb1 => ?_) (fun hb1 => ?_)
    · try simp only [nb, inr_t, inr_f, isEmpty_t] at hb1
      have hr := rcvd_drop s (by omega)
      refine W.seq ?_
      refine W.reg X [] [(13, ⟨true, [.agg (dec_DB (sumL s.rows (s.received.drop 1)))]⟩)] [2] [] rfl (by (repeat' (first | with_reducible exact AllP.nil | with_reducible refine AllP.mk ?_ ?_ | with_reducible apply And.intro)) <;> skip; (iterate 1 (all_goals try (first | exact (c_spec_l25Sum s 1 (by decide) hsz))))) ?_
      refine W.ret ?_
      exact Fin.ret rfl ⟨by rw [pubS, if_pos hk, if_neg (by omega), hr], ⟨⟩⟩
    · try simp only [nb, inr_t, inr_f, isEmpty_t] at hb1
      have hr := rcvd_all s (by omega)
      rw [hr] at hin
      have hin2 : 0 < ((sumL s.rows s.received).rows.getD (Int.toNat 0) (dfl (.sl .u8))).length := hin.2
      have hin3 : 0 < ((sumL s.rows (List.drop 0 s.received)).rows.getD (Int.toNat 0) (dfl (.sl .u8))).length := hin.2
      have hin4 : 0 < (sumL s.rows (List.drop 0 s.received)).rows.length := hin.1
      refine W.seq ?_
      refine W.reg X [] [] [1, 2, 14] [] rfl ⟨⟩ ?_
      refine W.cond rfl (fun hb2 => ?_) (fun hb2 => ?_)
      · try simp only [nb, inr_t, inr_f, isEmpty_t] at hb2
        refine W.seq ?_
        refine W.reg X [] [(17, ⟨true, [.agg (dec_DB (sumL s.rows (s.received.drop 0)))]⟩)] [2, 3] [] rfl (by (repeat' (first | with_reducible exact AllP.nil | with_reducible refine AllP.mk ?_ ?_ | with_reducible apply And.intro)) <;> skip; (iterate 1 (all_goals try (first | exact (c_spec_l25Sum s 0 (by decide) hsz))))) ?_
        refine W.seq ?_
        refine W.draw X [] [] [2, 3] [] 12 MO (by kernel_rfl) rfl (by (repeat' (first | exact True.intro | apply And.intro)) <;> first | (intros; omega) | exact (u8w _).1 | exact (u8w _).2) ?_
        refine W.seq ?_
        refine W.reg X [] [] [2] [] rfl (by (repeat' (first | exact True.intro | apply And.intro))) ?_
        refine W.ret ?_
        exact Fin.ret rfl ⟨by rw [pubS, if_pos hk, if_pos (by omega), hr]; exact alt_eq _, ⟨⟩⟩
      · try simp only [nb, inr_t, inr_f, isEmpty_t] at hb2
        refine W.skip ?_
        refine W.seq ?_
        refine W.reg X [] [(32, ⟨true, [.agg (dec_DB (sumL s.rows (s.received.drop 0)))]⟩)] [2] [] rfl (by (repeat' (first | with_reducible exact AllP.nil | with_reducible refine AllP.mk ?_ ?_ | with_reducible apply And.intro)) <;> skip; (iterate 1 (all_goals try (first | exact (c_spec_l25Sum s 0 (by decide) hsz))))) ?_
        refine W.ret ?_
        exact Fin.ret rfl ⟨by rw [pubS, if_pos hk, if_neg (by omega), hr]; rfl, ⟨⟩⟩
theorem c_impl_EqualDatabases (a b : DB) : Sound ty Tryz.prog 164 [.agg (dec_DB a), .agg (dec_DB b)] [.a (.lit (.bool (a.rows == b.rows)))] := by
  refine Sound.of X Tryz.call164 Tryz.func164 rfl rfl (by decide) Tryz.ntmps164 (by simp) ?_
  intro zb
  refine W.seq ?_
  refine W.reg X [] [] [2, 3] [] rfl ⟨⟩ ?_
  refine W.seq ?_
  refine W.reg X [] [(9, ⟨false, [.a (.lit (.bool (a.rows == b.rows)))]⟩)] [4] [] rfl (by (repeat' (first | with_reducible exact AllP.nil | with_reducible refine AllP.mk ?_ ?_ | with_reducible apply And.intro)) <;> skip; (iterate 1 (all_goals try (first | exact (c_impl_EqualLists a.rows b.rows))))) ?_
  refine W.ret ?_
  exact Fin.ret rfl ⟨rfl, ⟨⟩⟩
theorem c_spec_EqualDatabases (a b : DB) : Sound ty Tryz.prog 159 [.agg (dec_DB a), .agg (dec_DB b)] [.a (.lit (.bool (a.rows == b.rows)))] := by
  refine Sound.of X Tryz.call159 Tryz.func159 rfl rfl (by decide) Tryz.ntmps159 (by simp) ?_
  intro zb
  refine W.seq ?_
  refine W.reg X [] [] [2, 3] [] rfl ⟨⟩ ?_
  refine W.seq ?_
  refine W.reg X [] [(9, ⟨false, [.a (.lit (.bool (a.rows == b.rows)))]⟩)] [4] [] rfl (by (repeat' (first | with_reducible exact AllP.nil | with_reducible refine AllP.mk ?_ ?_ | with_reducible apply And.intro)) <;> skip; (iterate 1 (all_goals try (first | exact (c_spec_EqualLists a.rows b.rows))))) ?_
  refine W.ret ?_
  exact Fin.ret rfl ⟨rfl, ⟨⟩⟩
theorem c_impl_VerifyReceipt (key : Int) (r : Rcp) : Sound ty Tryz.prog 162 [.a (.lit (.int .i64 key)), .agg (dec_Rcp r)] [.a (.lit (.bool (rvOK key r)))] := by
  refine Sound.of X Tryz.call162 Tryz.func162 rfl rfl (by decide) Tryz.ntmps162 (by simp) ?_
  intro zb
  refine W.seq ?_
  refine W.reg X [] [] [0, 3] [] rfl ⟨⟩ ?_
  refine W.seq ?_
  refine W.draw X [] [(9, ⟨false, [.a (.lit (.int .i64 (rmac key r.server r.client r.round r.digest)))]⟩)] [4] [] 7 MO (by kernel_rfl) rfl (by (repeat' (first | with_reducible exact AllP.nil | with_reducible refine AllP.mk ?_ ?_ | with_reducible apply And.intro)) <;> skip; (iterate 1 (all_goals try (first | exact (c_impl_ReceiptMAC key r))))) ?_
  refine W.ret ?_
  exact Fin.ret rfl ⟨(congrArg Value.bool (by simp only [rvOK, ite_tt, ite_ff, gt_iff_lt, ge_iff_le, not_dlt, not_dle, bne_not, deq, decide_not, ne_eq, Bool.not_and, Bool.not_or, Bool.not_not, Bool.and_true, Bool.true_and, Bool.or_false, Bool.false_or, Int.toNat_natCast] <;> first | rfl | ac_rfl)), ⟨⟩⟩
theorem c_impl_ReceiptMatches (r : Rcp) (d : DB) (hd : lsz List.length d.rows ≤ 1048576) : Sound ty Tryz.prog 163 [.agg (dec_Rcp r), .agg (dec_DB d)] [.a (.lit (.bool (rmat r d)))] := by
  refine Sound.of X Tryz.call163 Tryz.func163 rfl rfl (by decide) Tryz.ntmps163 (by simp) ?_
  intro zb
  refine W.seq ?_
  refine W.reg X [] [] [2, 3] [] rfl ⟨⟩ ?_
  refine W.seq ?_
  refine W.draw X [] [(12, ⟨false, [.a (.lit (.int .i64 (sdig r.client r.round d)))]⟩)] [4] [] 10 MO (by kernel_rfl) rfl (by (repeat' (first | with_reducible exact AllP.nil | with_reducible refine AllP.mk ?_ ?_ | with_reducible apply And.intro)) <;> skip; (iterate 1 (all_goals try (first | exact (c_impl_ShareDigest r.client r.round d hd))))) ?_
  refine W.ret ?_
  exact Fin.ret rfl ⟨(congrArg Value.bool (by simp only [rmat, ite_tt, ite_ff, gt_iff_lt, ge_iff_le, not_dlt, not_dle, bne_not, deq, decide_not, ne_eq, Bool.not_and, Bool.not_or, Bool.not_not, Bool.and_true, Bool.true_and, Bool.or_false, Bool.false_or, Int.toNat_natCast] <;> first | rfl | ac_rfl)), ⟨⟩⟩
theorem c_impl_AuditServer (key : Int) (s : Srv) (p : DB) (l : List Rcp) (hz : s.received.length ≤ 1048576 ∧ ∀ r, r ∈ s.received → lsz List.length r.share.rows ≤ 1048576) (hp : lsz List.length p.rows ≤ 1048576) : Sound ty Tryz.prog 107 [.a (.lit (.int .i64 key)), .agg (dec_Srv s), .agg (dec_DB p), .a (.sl .Rcp l)] [.a (.lit (.int .i64 (audL key s p l)))] := by
  refine Sound.of X Tryz.call107 Tryz.func107 rfl rfl (by decide) Tryz.ntmps107 (by simp) ?_
  intro zb
  refine W.bound 3 rfl (fun hll => ?_)
  refine W.seq ?_
  refine W.reg X [] [] [0, 3, 5, 6] [] rfl ⟨⟩ ?_
  refine W.seq ?_
  refine W.seq ?_
  refine W.reg X [] [] [0, 5, 6, 13, 14, 15] [] rfl ⟨⟩ ?_
  refine W.block ?_
  refine W.loopO (fun k => k ≤ l.length ∧ ∀ j, j < k → rfind key s (l.getD j (dfl .Rcp)) = 0) (fun k : Nat => [(15, .one (.a (.lit (.int .i64 k))))]) (fun k => []) (fun k => l.length - k) 0 (fun k => rfl) ⟨Nat.zero_le _, fun j hj => absurd hj (Nat.not_lt_zero _)⟩ rfl ?_
  rintro k ⟨hk, hall⟩
  refine W.seq ?_
  refine W.reg X [] [] [0, 5, 6, 13, 14, 15, 16] [] rfl ⟨⟩ ?_
  refine W.seq ?_
  refine W.cond rfl (fun hb0 => ?_) (fun hb0 => ?_)
  · try simp only [nb, inr_t, inr_f, isEmpty_t] at hb0
    refine W.skip ?_
    refine W.seq ?_
    refine W.block ?_
    refine W.seq ?_
    refine W.reg X [] [] [0, 5, 6, 10, 13, 14, 15] [] rfl (by (repeat' (first | exact True.intro | apply And.intro)) <;> first | (intros; omega)) ?_
    refine W.seq ?_
    refine W.seq ?_
    refine W.reg X [] [(34, ⟨false, [.a (.lit (.bool (rvOK key (l.getD k (dfl .Rcp)))))]⟩)] [0, 5, 6, 10, 13, 14, 15, 36] [] rfl (by (repeat' (first | with_reducible exact AllP.nil | with_reducible refine AllP.mk ?_ ?_ | with_reducible apply And.intro)) <;> skip; (iterate 1 (all_goals try (first | exact fun _ => (c_impl_VerifyReceipt key (l.getD k (dfl .Rcp))))))) ?_
    refine W.cond rfl (fun hb1 => ?_) (fun hb1 => ?_)
    · have hsk : rskip key s (l.getD k (dfl .Rcp)) = true := and_yes hb1 (by simp only [rskip, ite_tt, ite_ff, gt_iff_lt, ge_iff_le, not_dlt, not_dle, bne_not, deq, decide_not, ne_eq, Bool.not_and, Bool.not_or, Bool.not_not, Bool.and_true, Bool.true_and, Bool.or_false, Bool.false_or, Int.toNat_natCast] <;> first | rfl | ac_rfl)
      refine W.exit ?_
      refine W.reg X [] [] [0, 5, 6, 13, 14, 15] [] rfl ⟨⟩ ?_
      refine ⟨k + 1, ⟨by omega, ahead_snoc hall (rf_s hsk)⟩, by omega, ?_⟩
      rw [wadd _ k rfl (by omega)]
      try rfl
    · have hsk : rskip key s (l.getD k (dfl .Rcp)) = false := and_no hb1 (by simp only [rskip, ite_tt, ite_ff, gt_iff_lt, ge_iff_le, not_dlt, not_dle, bne_not, deq, decide_not, ne_eq, Bool.not_and, Bool.not_or, Bool.not_not, Bool.and_true, Bool.true_and, Bool.or_false, Bool.false_or, Int.toNat_natCast] <;> first | rfl | ac_rfl)
      refine W.skip ?_
      refine W.seq ?_
      refine W.reg X [] [(41, ⟨true, [.agg (dec_DB (shDB s.received ((l.getD k (dfl .Rcp)).client))), .a (.lit (.bool (shHas s.received ((l.getD k (dfl .Rcp)).client))))]⟩)] [0, 5, 6, 10, 11, 12, 13, 14, 15] [] rfl (by (repeat' (first | with_reducible exact AllP.nil | with_reducible refine AllP.mk ?_ ?_ | with_reducible apply And.intro)) <;> skip; (iterate 1 (all_goals try (first | exact (c_impl_ShareOf s ((l.getD k (dfl .Rcp)).client) hz))))) ?_
      refine W.seq ?_
      refine W.seq ?_
      refine W.reg X [] [] [0, 5, 6, 10, 11, 13, 14, 15, 45] [] rfl ⟨⟩ ?_
      refine W.cond rfl (fun hb2 => ?_) (fun hb2 => ?_)
      · have hsh : shHas s.received (l.getD k (dfl .Rcp)).client = false := by simpa using hb2
        have hf := rf_1 hsk hsh
        refine W.seq ?_
        refine W.reg X [] [] [8] [] rfl ⟨⟩ ?_
        refine W.ret ?_
        exact Fin.ret rfl ⟨by rw [audL_hit hall hb0 (by rw [hf]; decide), hf], ⟨⟩⟩
      · have hsh : shHas s.received (l.getD k (dfl .Rcp)).client = true := by simpa using hb2
        have hsd := shDB_small (c := (l.getD k (dfl .Rcp)).client) hz.2
        refine W.skip ?_
        refine W.seq ?_
        refine W.reg X [] [(48, ⟨false, [.a (.lit (.bool (rmat (l.getD k (dfl .Rcp)) (shDB s.received (l.getD k (dfl .Rcp)).client))))]⟩)] [0, 5, 6, 13, 14, 15, 49] [] rfl (by (repeat' (first | with_reducible exact AllP.nil | with_reducible refine AllP.mk ?_ ?_ | with_reducible apply And.intro)) <;> skip; (iterate 1 (all_goals try (first | exact (c_impl_ReceiptMatches (l.getD k (dfl .Rcp)) (shDB s.received (l.getD k (dfl .Rcp)).client) hsd))))) ?_
        refine W.cond rfl (fun hb3 => ?_) (fun hb3 => ?_)
        · have hf := rf_2 hsk hsh (by simpa using hb3)
          refine W.seq ?_
          refine W.reg X [] [] [8] [] rfl ⟨⟩ ?_
          refine W.ret ?_
          exact Fin.ret rfl ⟨by rw [audL_hit hall hb0 (by rw [hf]; decide), hf], ⟨⟩⟩
        · have hf := rf_0 hsk hsh (by simpa using hb3)
          refine W.skip ?_
          refine W.reg X [] [] [0, 5, 6, 13, 14, 15] [] rfl ⟨⟩ ?_
          refine ⟨k + 1, ⟨by omega, ahead_snoc hall hf⟩, by omega, ?_⟩
          rw [wadd _ k rfl (by omega)]
          try rfl
  · try simp only [nb, inr_t, inr_f, isEmpty_t] at hb0
    refine W.exit ?_
    refine W.seq ?_
    refine W.seq ?_
    refine W.draw X [] [(52, ⟨false, [.a (.lit (.bool (okSrv s)))]⟩), (57, ⟨false, [.agg (dec_DB (sumS s))]⟩), (58, ⟨false, [.a (.lit (.bool (p.rows == (sumS s).rows)))]⟩)] [60] [] 10 MO (by kernel_rfl) rfl (by (repeat' (first | with_reducible exact AllP.nil | with_reducible refine AllP.mk ?_ ?_ | with_reducible apply And.intro)) <;> skip; (iterate 3 (all_goals try (first | exact (c_impl_IsValidServer s) | exact fun _ => (c_impl_SumOfShares s) | exact fun _ => (c_impl_EqualDatabases p (sumS s)))))) ?_
    refine W.cond rfl (fun hb4 => ?_) (fun hb4 => ?_)
    · have hq : (okSrv s && (p.rows == (sumS s).rows)) = false := or_no1 hb4 (by simp only [ite_tt, ite_ff, gt_iff_lt, ge_iff_le, not_dlt, not_dle, bne_not, deq, decide_not, ne_eq, Bool.not_and, Bool.not_or, Bool.not_not, Bool.and_true, Bool.true_and, Bool.or_false, Bool.false_or, Int.toNat_natCast] <;> first | rfl | ac_rfl)
      refine W.seq ?_
      refine W.reg X [] [] [8] [] rfl ⟨⟩ ?_
      refine W.ret ?_
      exact Fin.ret rfl ⟨by rw [audL_end hall hb0, hq]; rfl, ⟨⟩⟩
    · have hq : (okSrv s && (p.rows == (sumS s).rows)) = true := or_yes hb4 (by simp only [ite_tt, ite_ff, gt_iff_lt, ge_iff_le, not_dlt, not_dle, bne_not, deq, decide_not, ne_eq, Bool.not_and, Bool.not_or, Bool.not_not, Bool.and_true, Bool.true_and, Bool.or_false, Bool.false_or, Int.toNat_natCast] <;> first | rfl | ac_rfl)
      refine W.skip ?_
      refine W.seq ?_
      refine W.reg X [] [] [8] [] rfl ⟨⟩ ?_
      refine W.ret ?_
      exact Fin.ret rfl ⟨by rw [audL_end hall hb0, hq]; rfl, ⟨⟩⟩
theorem c_impl_AuditRound (m : Int) (sv : List Srv) (pb : List DB) (rc : List Rcp) (hl : sv.length ≤ 1048576) (hs : ∀ s, s ∈ sv → smallS s) (hp : ∀ d, d ∈ pb → lsz List.length d.rows ≤ 1048576) : Sound ty Tryz.prog 52 [.a (.lit (.int .i64 m)), .a (.sl .Srv sv), .a (.sl .DB pb), .a (.sl .Rcp rc)] [.a (.sl .int (audR m sv pb rc sv.length))] := by
  refine Sound.of X Tryz.call52 Tryz.func52 rfl rfl (by decide) Tryz.ntmps52 (by simp) ?_
  intro zb
  refine W.bound 2 rfl (fun hll => ?_)
  refine W.seq ?_
  refine W.reg X [] [] [0, 1, 2, 3] [] rfl ⟨⟩ ?_
  refine W.seq ?_
  refine W.reg X [] [] [0, 1, 2, 3, 9] [] rfl (by (repeat' (first | exact True.intro | apply And.intro)) <;> first | exact rfl) ?_
  refine W.seq ?_
  refine W.seq ?_
  refine W.reg X [] [] [0, 2, 3, 9, 13, 14, 15] [] rfl ⟨⟩ ?_
  refine W.block ?_
  refine W.loopO (fun k => k ≤ sv.length) (fun k : Nat => [(15, .one (.a (.lit (.int .i64 k))))]) (fun k => [(12, .arr .int (audR m sv pb rc k))]) (fun k => sv.length - k) 0 (fun k => rfl) (Nat.zero_le _) rfl ?_
  intro k hk
  have hle := audR_len m sv pb rc k
  refine W.seq ?_
  refine W.reg X [] [] [0, 2, 3, 9, 13, 14, 15, 16] [] rfl ⟨⟩ ?_
  refine W.seq ?_
  refine W.cond rfl (fun hb0 => ?_) (fun hb0 => ?_)
  · try simp only [nb, inr_t, inr_f, isEmpty_t] at hb0
    refine W.skip ?_
    refine W.seq ?_
    refine W.block ?_
    refine W.seq ?_
    refine W.reg X [] [] [0, 2, 3, 9, 10, 11, 13, 14, 15] [] rfl (by (repeat' (first | exact True.intro | apply And.intro)) <;> first | (intros; omega)) ?_
    refine W.seq ?_
    refine W.draw X [] [(28, ⟨false, [.a (.lit (.int .i64 (skey m ((sv.getD k (dfl .Srv)).id))))]⟩), (35, ⟨false, [.a (.lit (.int .i64 (audL (skey m (sv.getD k (dfl .Srv)).id) (sv.getD k (dfl .Srv)) (pb.getD k (dfl .DB)) rc)))]⟩)] [0, 2, 3, 9, 11, 13, 14, 15, 37] [] 18 MO (by kernel_rfl) rfl (by (repeat' (first | with_reducible exact AllP.nil | with_reducible refine AllP.mk ?_ ?_ | with_reducible apply And.intro)) <;> skip; (iterate 3 (all_goals try (first | exact fun _ => (c_impl_ServerKey m ((sv.getD k (dfl .Srv)).id)) | exact fun _ => (c_impl_AuditServer (skey m (sv.getD k (dfl .Srv)).id) (sv.getD k (dfl .Srv)) (pb.getD k (dfl .DB)) rc (hs _ (getD_in _ hb0)) (pb_small hp k)) | exact (by refine fun hzz => ?_; have hz2 : decide ((k : Int) ≥ (pb.length : Int)) = false := hzz; rw [decide_eq_false_iff_not] at hz2; dsimp only [hyps, imps]; omega))))) ?_
    refine W.cond rfl (fun hb1 => ?_) (fun hb1 => ?_)
    · have hbd : badS m sv pb rc k = true := and_yes hb1 (by simp only [badS, ite_tt, ite_ff, gt_iff_lt, ge_iff_le, not_dlt, not_dle, bne_not, deq, decide_not, ne_eq, Bool.not_and, Bool.not_or, Bool.not_not, Bool.and_true, Bool.true_and, Bool.or_false, Bool.false_or, Int.toNat_natCast] <;> first | rfl | ac_rfl)
      have hs2 := audR_hit hbd
      refine W.reg X [(42, 12)] [] [0, 2, 3, 9, 13, 14, 15] [] rfl (by (repeat' (first | exact True.intro | apply And.intro)) <;> first | exact rfl | (simp only [byt, maxLen, lens]; omega)) ?_
      refine W.reg X [] [] [0, 2, 3, 9, 13, 14, 15] [] rfl ⟨⟩ ?_
      refine ⟨k + 1, by omega, by omega, ?_⟩
      rw [wadd _ k rfl (by omega), hs2]
      try rfl
    · have hbd : badS m sv pb rc k = false := and_no hb1 (by simp only [badS, ite_tt, ite_ff, gt_iff_lt, ge_iff_le, not_dlt, not_dle, bne_not, deq, decide_not, ne_eq, Bool.not_and, Bool.not_or, Bool.not_not, Bool.and_true, Bool.true_and, Bool.or_false, Bool.false_or, Int.toNat_natCast] <;> first | rfl | ac_rfl)
      have hs2 := audR_miss hbd
      refine W.skip ?_
      refine W.reg X [] [] [0, 2, 3, 9, 13, 14, 15] [] rfl ⟨⟩ ?_
      refine ⟨k + 1, by omega, by omega, ?_⟩
      rw [wadd _ k rfl (by omega), hs2]
      try rfl
  · try simp only [nb, inr_t, inr_f, isEmpty_t] at hb0
    refine W.exit ?_
    refine W.seq ?_
    refine W.reg X [] [] [8] [] rfl ⟨⟩ ?_
    refine W.ret ?_
    exact Fin.ret rfl ⟨by rw [show k = sv.length by omega], ⟨⟩⟩
theorem c_impl_PublishAll (sv : List Srv) (hl : sv.length ≤ 1048576) : Sound ty Tryz.prog 53 [.a (.sl .Srv sv)] [.a (.sl .DB (pubs sv))] := by
  refine Sound.of X Tryz.call53 Tryz.func53 rfl rfl (by decide) Tryz.ntmps53 (by simp) ?_
  intro zb
  refine W.seq ?_
  refine W.reg X [] [] [0] [] rfl ⟨⟩ ?_
  refine W.seq ?_
  refine W.reg X [] [] [0, 3] [] rfl (by (repeat' (first | exact True.intro | apply And.intro)) <;> first | exact rfl) ?_
  refine W.seq ?_
  refine W.seq ?_
  refine W.reg X [] [] [3, 7, 8, 9] [] rfl ⟨⟩ ?_
  refine W.block ?_
  refine W.loopO (fun k => k ≤ sv.length) (fun k : Nat => [(9, .one (.a (.lit (.int .i64 k))))]) (fun k => [(6, .arr .DB ((pubs sv).take k))]) (fun k => sv.length - k) 0 (fun k => rfl) (Nat.zero_le _) rfl ?_
  intro k hk
  have hle := take_le_len (pubs sv) k
  refine W.seq ?_
  refine W.reg X [] [] [3, 7, 8, 9, 10] [] rfl ⟨⟩ ?_
  refine W.seq ?_
  refine W.cond rfl (fun hb0 => ?_) (fun hb0 => ?_)
  · try simp only [nb, inr_t, inr_f, isEmpty_t] at hb0
    have hs := pubs_step sv k hb0
    refine W.skip ?_
    refine W.seq ?_
    refine W.block ?_
    refine W.seq ?_
    refine W.reg X [] [] [3, 5, 7, 8, 9] [] rfl (by (repeat' (first | exact True.intro | apply And.intro)) <;> first | (intros; omega)) ?_
    refine W.reg X [(17, 6)] [(15, ⟨true, [.agg (dec_DB (pubS (sv.getD k (dfl .Srv))))]⟩)] [3, 7, 8, 9] [] rfl (by (repeat' (first | with_reducible exact AllP.nil | with_reducible refine AllP.mk ?_ ?_ | with_reducible apply And.intro)) <;> skip; (iterate 1 (all_goals try (first | exact (c_impl_PublishShare (sv.getD k (dfl .Srv)))))); all_goals (first | exact rfl | (simp only [byt, maxLen, lens]; omega))) ?_
    refine W.reg X [] [] [3, 7, 8, 9] [] rfl ⟨⟩ ?_
    refine ⟨k + 1, by omega, by omega, ?_⟩
    rw [wadd _ k rfl (by omega), hs]
    try rfl
  · try simp only [nb, inr_t, inr_f, isEmpty_t] at hb0
    refine W.exit ?_
    refine W.seq ?_
    refine W.reg X [] [] [2] [] rfl ⟨⟩ ?_
    refine W.ret ?_
    exact Fin.ret rfl ⟨by rw [List.take_of_length_le (by unfold pubs; rw [List.length_map]; exact hb0)], ⟨⟩⟩
theorem c_impl_GuiltyServers (x : Wld) (h0 : size_Wld x ≤ 1048576) (hsv : x.servers.length ≤ 1048576) : Sound ty Tryz.prog 18 [.agg (dec_Wld x)] [.a (.sl .int (guilty x))] := by
  refine Sound.of X Tryz.call18 Tryz.func18 rfl rfl (by decide) Tryz.ntmps18 (by simp) ?_
  intro zb
  refine W.seq ?_
  refine W.reg X [] [] [1] [] rfl ⟨⟩ ?_
  refine W.seq ?_
  refine W.seq ?_
  refine W.reg X [] [(6, ⟨false, [.a (.lit (.bool (okW x)))]⟩)] [1, 7] [] rfl (by (repeat' (first | with_reducible exact AllP.nil | with_reducible refine AllP.mk ?_ ?_ | with_reducible apply And.intro)) <;> skip; (iterate 1 (all_goals try (first | exact (c_impl_IsValidWorld x))))) ?_
  refine W.cond rfl (fun hb0 => ?_) (fun hb0 => ?_)
  · have hk : okW x = false := by simpa using hb0
    refine W.seq ?_
    refine W.reg X [] [] [2] [] rfl ⟨⟩ ?_
    refine W.ret ?_
    exact Fin.ret rfl ⟨by rw [guilty, if_neg (by rw [hk]; decide)], ⟨⟩⟩
  · have hk : okW x = true := by simpa using hb0
    have hcl := colS_len hk
    have hcs := colS_small hk
    refine W.skip ?_
    refine W.seq ?_
    refine W.reg X [] [(10, ⟨true, [.a (.sl .Srv (colS x)), .a (.sl .Rcp (colR x))]⟩)] [1, 3, 4] [] rfl (by (repeat' (first | with_reducible exact AllP.nil | with_reducible refine AllP.mk ?_ ?_ | with_reducible apply And.intro)) <;> skip; (iterate 1 (all_goals try (first | exact (c_impl_CollectShares x h0 hsv))))) ?_
    refine W.seq ?_
    refine W.draw X [] [(17, ⟨true, [.a (.sl .DB (pubs (colS x)))]⟩), (19, ⟨true, [.a (.sl .int (audR x.master (colS x) (pubs (colS x)) (colR x) (colS x).length))]⟩)] [2] [] 8 MO (by kernel_rfl) rfl (by (repeat' (first | with_reducible exact AllP.nil | with_reducible refine AllP.mk ?_ ?_ | with_reducible apply And.intro)) <;> skip; (iterate 2 (all_goals try (first | exact (c_impl_PublishAll (colS x) (by omega)) | exact (c_impl_AuditRound x.master (colS x) (pubs (colS x)) (colR x) (by omega) hcs (pubs_ok _)))))) ?_
    refine W.ret ?_
    exact Fin.ret rfl ⟨by rw [guilty, if_pos hk], ⟨⟩⟩
theorem c_spec_VerifyReceipt (key : Int) (r : Rcp) : Sound ty Tryz.prog 156 [.a (.lit (.int .i64 key)), .agg (dec_Rcp r)] [.a (.lit (.bool (rvOK key r)))] := by
  refine Sound.of X Tryz.call156 Tryz.func156 rfl rfl (by decide) Tryz.ntmps156 (by simp) ?_
  intro zb
  refine W.seq ?_
  refine W.reg X [] [] [0, 3] [] rfl ⟨⟩ ?_
  refine W.seq ?_
  refine W.draw X [] [(9, ⟨false, [.a (.lit (.int .i64 (rmac key r.server r.client r.round r.digest)))]⟩)] [4] [] 7 MO (by kernel_rfl) rfl (by (repeat' (first | with_reducible exact AllP.nil | with_reducible refine AllP.mk ?_ ?_ | with_reducible apply And.intro)) <;> skip; (iterate 1 (all_goals try (first | exact (c_spec_ReceiptMAC key r))))) ?_
  refine W.ret ?_
  exact Fin.ret rfl ⟨(congrArg Value.bool (by simp only [rvOK, ite_tt, ite_ff, gt_iff_lt, ge_iff_le, not_dlt, not_dle, bne_not, deq, decide_not, ne_eq, Bool.not_and, Bool.not_or, Bool.not_not, Bool.and_true, Bool.true_and, Bool.or_false, Bool.false_or, Int.toNat_natCast] <;> first | rfl | ac_rfl)), ⟨⟩⟩
theorem c_spec_ReceiptMatches (r : Rcp) (d : DB) (hd : lsz List.length d.rows ≤ 1048576) : Sound ty Tryz.prog 158 [.agg (dec_Rcp r), .agg (dec_DB d)] [.a (.lit (.bool (rmat r d)))] := by
  refine Sound.of X Tryz.call158 Tryz.func158 rfl rfl (by decide) Tryz.ntmps158 (by simp) ?_
  intro zb
  refine W.seq ?_
  refine W.reg X [] [] [2, 3] [] rfl ⟨⟩ ?_
  refine W.seq ?_
  refine W.draw X [] [(12, ⟨false, [.a (.lit (.int .i64 (sdig r.client r.round d)))]⟩)] [4] [] 10 MO (by kernel_rfl) rfl (by (repeat' (first | with_reducible exact AllP.nil | with_reducible refine AllP.mk ?_ ?_ | with_reducible apply And.intro)) <;> skip; (iterate 1 (all_goals try (first | exact (c_spec_ShareDigest r.client r.round d hd))))) ?_
  refine W.ret ?_
  exact Fin.ret rfl ⟨(congrArg Value.bool (by simp only [rmat, ite_tt, ite_ff, gt_iff_lt, ge_iff_le, not_dlt, not_dle, bne_not, deq, decide_not, ne_eq, Bool.not_and, Bool.not_or, Bool.not_not, Bool.and_true, Bool.true_and, Bool.or_false, Bool.false_or, Int.toNat_natCast] <;> first | rfl | ac_rfl)), ⟨⟩⟩
theorem c_spec_AuditServer (key : Int) (s : Srv) (p : DB) (l : List Rcp) (hz : s.received.length ≤ 1048576 ∧ ∀ r, r ∈ s.received → lsz List.length r.share.rows ≤ 1048576) (hp : lsz List.length p.rows ≤ 1048576) : Sound ty Tryz.prog 105 [.a (.lit (.int .i64 key)), .agg (dec_Srv s), .agg (dec_DB p), .a (.sl .Rcp l)] [.a (.lit (.int .i64 (audL key s p l)))] := by
  refine Sound.of X Tryz.call105 Tryz.func105 rfl rfl (by decide) Tryz.ntmps105 (by simp) ?_
  intro zb
  refine W.bound 3 rfl (fun hll => ?_)
  refine W.seq ?_
  refine W.reg X [] [] [0, 3, 5, 6] [] rfl ⟨⟩ ?_
  refine W.seq ?_
  refine W.seq ?_
  refine W.reg X [] [] [0, 3, 5, 6, 9] [] rfl ⟨⟩ ?_
  refine W.block ?_
  refine W.loopO (fun k => k ≤ l.length ∧ ∀ j, j < k → rfind key s (l.getD j (dfl .Rcp)) = 0) (fun k : Nat => [(9, .one (.a (.lit (.int .i64 k))))]) (fun k => []) (fun k => l.length - k) 0 (fun k => rfl) ⟨Nat.zero_le _, fun j hj => absurd hj (Nat.not_lt_zero _)⟩ rfl ?_
  rintro k ⟨hk, hall⟩
  refine W.seq ?_
  refine W.seq ?_
  refine W.reg X [] [] [0, 3, 5, 6, 9, 16] [] rfl ⟨⟩ ?_
  refine W.cond rfl (fun hb0 => ?_) (fun hb0 => ?_)
  · try simp only [nb, inr_t, inr_f, isEmpty_t] at hb0
    refine W.skip ?_
    refine W.seq ?_
    refine W.block ?_
    refine W.seq ?_
    refine W.reg X [] [] [0, 3, 5, 6, 9, 10] [] rfl (by (repeat' (first | exact True.intro | apply And.intro)) <;> first | (intros; omega)) ?_
    refine W.seq ?_
    refine W.seq ?_
    refine W.reg X [] [(38, ⟨false, [.a (.lit (.bool (rvOK key (l.getD k (dfl .Rcp)))))]⟩)] [0, 3, 5, 6, 9, 10, 40] [] rfl (by (repeat' (first | with_reducible exact AllP.nil | with_reducible refine AllP.mk ?_ ?_ | with_reducible apply And.intro)) <;> skip; (iterate 1 (all_goals try (first | exact fun _ => (c_spec_VerifyReceipt key (l.getD k (dfl .Rcp))))))) ?_
    refine W.cond rfl (fun hb1 => ?_) (fun hb1 => ?_)
    · have hsk : rskip key s (l.getD k (dfl .Rcp)) = true := and_yes hb1 (by simp only [rskip, ite_tt, ite_ff, gt_iff_lt, ge_iff_le, not_dlt, not_dle, bne_not, deq, decide_not, ne_eq, Bool.not_and, Bool.not_or, Bool.not_not, Bool.and_true, Bool.true_and, Bool.or_false, Bool.false_or, Int.toNat_natCast] <;> first | rfl | ac_rfl)
      refine W.exit ?_
      refine W.reg X [] [] [0, 3, 5, 6, 9] [] rfl ⟨⟩ ?_
      refine ⟨k + 1, ⟨by omega, ahead_snoc hall (rf_s hsk)⟩, by omega, ?_⟩
      rw [wadd _ k rfl (by omega)]
      try rfl
    · have hsk : rskip key s (l.getD k (dfl .Rcp)) = false := and_no hb1 (by simp only [rskip, ite_tt, ite_ff, gt_iff_lt, ge_iff_le, not_dlt, not_dle, bne_not, deq, decide_not, ne_eq, Bool.not_and, Bool.not_or, Bool.not_not, Bool.and_true, Bool.true_and, Bool.or_false, Bool.false_or, Int.toNat_natCast] <;> first | rfl | ac_rfl)
      refine W.skip ?_
      refine W.seq ?_
      refine W.reg X [] [(45, ⟨true, [.agg (dec_DB (shDB s.received ((l.getD k (dfl .Rcp)).client))), .a (.lit (.bool (shHas s.received ((l.getD k (dfl .Rcp)).client))))]⟩)] [0, 3, 5, 6, 9, 10, 11, 12] [] rfl (by (repeat' (first | with_reducible exact AllP.nil | with_reducible refine AllP.mk ?_ ?_ | with_reducible apply And.intro)) <;> skip; (iterate 1 (all_goals try (first | exact (c_spec_ShareOf s ((l.getD k (dfl .Rcp)).client) hz))))) ?_
      refine W.seq ?_
      refine W.seq ?_
      refine W.reg X [] [] [0, 3, 5, 6, 9, 10, 11, 49] [] rfl ⟨⟩ ?_
      refine W.cond rfl (fun hb2 => ?_) (fun hb2 => ?_)
      · have hsh : shHas s.received (l.getD k (dfl .Rcp)).client = false := by simpa using hb2
        have hf := rf_1 hsk hsh
        refine W.seq ?_
        refine W.reg X [] [] [8] [] rfl ⟨⟩ ?_
        refine W.ret ?_
        exact Fin.ret rfl ⟨by rw [audL_hit hall hb0 (by rw [hf]; decide), hf], ⟨⟩⟩
      · have hsh : shHas s.received (l.getD k (dfl .Rcp)).client = true := by simpa using hb2
        have hsd := shDB_small (c := (l.getD k (dfl .Rcp)).client) hz.2
        refine W.skip ?_
        refine W.seq ?_
        refine W.reg X [] [(52, ⟨false, [.a (.lit (.bool (rmat (l.getD k (dfl .Rcp)) (shDB s.received (l.getD k (dfl .Rcp)).client))))]⟩)] [0, 3, 5, 6, 9, 53] [] rfl (by (repeat' (first | with_reducible exact AllP.nil | with_reducible refine AllP.mk ?_ ?_ | with_reducible apply And.intro)) <;> skip; (iterate 1 (all_goals try (first | exact (c_spec_ReceiptMatches (l.getD k (dfl .Rcp)) (shDB s.received (l.getD k (dfl .Rcp)).client) hsd))))) ?_
        refine W.cond rfl (fun hb3 => ?_) (fun hb3 => ?_)
        · have hf := rf_2 hsk hsh (by simpa using hb3)
          refine W.seq ?_
          refine W.reg X [] [] [8] [] rfl ⟨⟩ ?_
          refine W.ret ?_
          exact Fin.ret rfl ⟨by rw [audL_hit hall hb0 (by rw [hf]; decide), hf], ⟨⟩⟩
        · have hf := rf_0 hsk hsh (by simpa using hb3)
          refine W.skip ?_
          refine W.reg X [] [] [0, 3, 5, 6, 9] [] rfl ⟨⟩ ?_
          refine ⟨k + 1, ⟨by omega, ahead_snoc hall hf⟩, by omega, ?_⟩
          rw [wadd _ k rfl (by omega)]
          try rfl
  · try simp only [nb, inr_t, inr_f, isEmpty_t] at hb0
    refine W.exit ?_
    refine W.seq ?_
    refine W.seq ?_
    refine W.draw X [] [(55, ⟨false, [.a (.lit (.bool (okSrv s)))]⟩), (60, ⟨false, [.agg (dec_DB (sumS s))]⟩), (61, ⟨false, [.a (.lit (.bool (p.rows == (sumS s).rows)))]⟩)] [63] [] 10 MO (by kernel_rfl) rfl (by (repeat' (first | with_reducible exact AllP.nil | with_reducible refine AllP.mk ?_ ?_ | with_reducible apply And.intro)) <;> skip; (iterate 3 (all_goals try (first | exact (c_spec_IsValidServer s) | exact fun _ => (c_spec_SumOfShares s) | exact fun _ => (c_spec_EqualDatabases p (sumS s)))))) ?_
    refine W.cond rfl (fun hb4 => ?_) (fun hb4 => ?_)
    · have hq : (okSrv s && (p.rows == (sumS s).rows)) = false := or_no1 hb4 (by simp only [ite_tt, ite_ff, gt_iff_lt, ge_iff_le, not_dlt, not_dle, bne_not, deq, decide_not, ne_eq, Bool.not_and, Bool.not_or, Bool.not_not, Bool.and_true, Bool.true_and, Bool.or_false, Bool.false_or, Int.toNat_natCast] <;> first | rfl | ac_rfl)
      refine W.seq ?_
      refine W.reg X [] [] [8] [] rfl ⟨⟩ ?_
      refine W.ret ?_
      exact Fin.ret rfl ⟨by rw [audL_end hall hb0, hq]; rfl, ⟨⟩⟩
    · have hq : (okSrv s && (p.rows == (sumS s).rows)) = true := or_yes hb4 (by simp only [ite_tt, ite_ff, gt_iff_lt, ge_iff_le, not_dlt, not_dle, bne_not, deq, decide_not, ne_eq, Bool.not_and, Bool.not_or, Bool.not_not, Bool.and_true, Bool.true_and, Bool.or_false, Bool.false_or, Int.toNat_natCast] <;> first | rfl | ac_rfl)
      refine W.skip ?_
      refine W.seq ?_
      refine W.reg X [] [] [8] [] rfl ⟨⟩ ?_
      refine W.ret ?_
      exact Fin.ret rfl ⟨by rw [audL_end hall hb0, hq]; rfl, ⟨⟩⟩
theorem c_spec_AuditRound (m : Int) (sv : List Srv) (pb : List DB) (rc : List Rcp) (hl : sv.length ≤ 1048576) (hs : ∀ s, s ∈ sv → smallS s) (hp : ∀ d, d ∈ pb → lsz List.length d.rows ≤ 1048576) : Sound ty Tryz.prog 50 [.a (.lit (.int .i64 m)), .a (.sl .Srv sv), .a (.sl .DB pb), .a (.sl .Rcp rc)] [.a (.sl .int (audR m sv pb rc sv.length))] := by
  refine Sound.of X Tryz.call50 Tryz.func50 rfl rfl (by decide) Tryz.ntmps50 (by simp) ?_
  intro zb
  refine W.bound 2 rfl (fun hll => ?_)
  refine W.seq ?_
  refine W.reg X [] [] [0, 1, 2, 3] [] rfl ⟨⟩ ?_
  refine W.seq ?_
  refine W.reg X [] [] [0, 1, 2, 3, 9] [] rfl (by (repeat' (first | exact True.intro | apply And.intro)) <;> first | exact rfl) ?_
  refine W.seq ?_
  refine W.seq ?_
  refine W.reg X [] [] [0, 1, 2, 3, 9, 10] [] rfl ⟨⟩ ?_
  refine W.block ?_
  refine W.loopO (fun k => k ≤ sv.length) (fun k : Nat => [(10, .one (.a (.lit (.int .i64 k))))]) (fun k => [(11, .arr .int (audR m sv pb rc k))]) (fun k => sv.length - k) 0 (fun k => rfl) (Nat.zero_le _) rfl ?_
  intro k hk
  have hle := audR_len m sv pb rc k
  refine W.seq ?_
  refine W.seq ?_
  refine W.reg X [] [] [0, 1, 2, 3, 9, 10, 15] [] rfl ⟨⟩ ?_
  refine W.cond rfl (fun hb0 => ?_) (fun hb0 => ?_)
  · try simp only [nb, inr_t, inr_f, isEmpty_t] at hb0
    refine W.skip ?_
    refine W.seq ?_
    refine W.block ?_
    refine W.seq ?_
    refine W.draw X [] [(29, ⟨false, [.a (.lit (.int .i64 (skey m ((sv.getD k (dfl .Srv)).id))))]⟩), (39, ⟨false, [.a (.lit (.int .i64 (audL (skey m (sv.getD k (dfl .Srv)).id) (sv.getD k (dfl .Srv)) (pb.getD k (dfl .DB)) rc)))]⟩)] [0, 1, 2, 3, 9, 10, 41] [] 24 MO (by kernel_rfl) rfl (by (repeat' (first | with_reducible exact AllP.nil | with_reducible refine AllP.mk ?_ ?_ | with_reducible apply And.intro)) <;> skip; (iterate 3 (all_goals try (first | exact fun _ => (c_spec_ServerKey m ((sv.getD k (dfl .Srv)).id)) | exact fun _ => (c_spec_AuditServer (skey m (sv.getD k (dfl .Srv)).id) (sv.getD k (dfl .Srv)) (pb.getD k (dfl .DB)) rc (hs _ (getD_in _ hb0)) (pb_small hp k)) | exact (by refine fun hzz => ?_; have hz2 : decide ((k : Int) ≥ (pb.length : Int)) = false := hzz; rw [decide_eq_false_iff_not] at hz2; dsimp only [hyps, imps]; omega))))) ?_
    refine W.cond rfl (fun hb1 => ?_) (fun hb1 => ?_)
    · have hbd : badS m sv pb rc k = true := and_yes hb1 (by simp only [badS, ite_tt, ite_ff, gt_iff_lt, ge_iff_le, not_dlt, not_dle, bne_not, deq, decide_not, ne_eq, Bool.not_and, Bool.not_or, Bool.not_not, Bool.and_true, Bool.true_and, Bool.or_false, Bool.false_or, Int.toNat_natCast] <;> first | rfl | ac_rfl)
      have hs2 := audR_hit hbd
      refine W.reg X [(49, 11)] [] [0, 1, 2, 3, 9, 10] [] rfl (by (repeat' (first | exact True.intro | apply And.intro)) <;> first | (intros; omega) | exact rfl | (simp only [byt, maxLen, lens]; omega)) ?_
      refine W.reg X [] [] [0, 1, 2, 3, 9, 10] [] rfl ⟨⟩ ?_
      refine ⟨k + 1, by omega, by omega, ?_⟩
      rw [wadd _ k rfl (by omega), hs2]
      try rfl
    · have hbd : badS m sv pb rc k = false := and_no hb1 (by simp only [badS, ite_tt, ite_ff, gt_iff_lt, ge_iff_le, not_dlt, not_dle, bne_not, deq, decide_not, ne_eq, Bool.not_and, Bool.not_or, Bool.not_not, Bool.and_true, Bool.true_and, Bool.or_false, Bool.false_or, Int.toNat_natCast] <;> first | rfl | ac_rfl)
      have hs2 := audR_miss hbd
      refine W.skip ?_
      refine W.reg X [] [] [0, 1, 2, 3, 9, 10] [] rfl ⟨⟩ ?_
      refine ⟨k + 1, by omega, by omega, ?_⟩
      rw [wadd _ k rfl (by omega), hs2]
      try rfl
  · try simp only [nb, inr_t, inr_f, isEmpty_t] at hb0
    refine W.exit ?_
    refine W.seq ?_
    refine W.reg X [] [] [8] [] rfl ⟨⟩ ?_
    refine W.ret ?_
    exact Fin.ret rfl ⟨by rw [show k = sv.length by omega], ⟨⟩⟩
theorem c_spec_PublishAll (sv : List Srv) (hl : sv.length ≤ 1048576) : Sound ty Tryz.prog 51 [.a (.sl .Srv sv)] [.a (.sl .DB (pubs sv))] := by
  refine Sound.of X Tryz.call51 Tryz.func51 rfl rfl (by decide) Tryz.ntmps51 (by simp) ?_
  intro zb
  refine W.seq ?_
  refine W.reg X [] [] [0] [] rfl ⟨⟩ ?_
  refine W.seq ?_
  refine W.reg X [] [] [0, 3] [] rfl (by (repeat' (first | exact True.intro | apply And.intro)) <;> first | exact rfl) ?_
  refine W.seq ?_
  refine W.seq ?_
  refine W.reg X [] [] [0, 3, 4] [] rfl ⟨⟩ ?_
  refine W.block ?_
  refine W.loopO (fun k => k ≤ sv.length) (fun k : Nat => [(4, .one (.a (.lit (.int .i64 k))))]) (fun k => [(5, .arr .DB ((pubs sv).take k))]) (fun k => sv.length - k) 0 (fun k => rfl) (Nat.zero_le _) rfl ?_
  intro k hk
  have hle := take_le_len (pubs sv) k
  refine W.seq ?_
  refine W.seq ?_
  refine W.reg X [] [] [0, 3, 4, 9] [] rfl ⟨⟩ ?_
  refine W.cond rfl (fun hb0 => ?_) (fun hb0 => ?_)
  · try simp only [nb, inr_t, inr_f, isEmpty_t] at hb0
    have hs := pubs_step sv k hb0
    refine W.skip ?_
    refine W.seq ?_
    refine W.block ?_
    refine W.reg X [(19, 5)] [(17, ⟨true, [.agg (dec_DB (pubS (sv.getD k (dfl .Srv))))]⟩)] [0, 3, 4] [] rfl (by (repeat' (first | with_reducible exact AllP.nil | with_reducible refine AllP.mk ?_ ?_ | with_reducible apply And.intro)) <;> skip; (iterate 1 (all_goals try (first | exact (c_spec_PublishShare (sv.getD k (dfl .Srv)))))); all_goals (first | (intros; omega) | exact rfl | (simp only [byt, maxLen, lens]; omega))) ?_
    refine W.reg X [] [] [0, 3, 4] [] rfl ⟨⟩ ?_
    refine ⟨k + 1, by omega, by omega, ?_⟩
    rw [wadd _ k rfl (by omega), hs]
    try rfl
  · try simp only [nb, inr_t, inr_f, isEmpty_t] at hb0
    refine W.exit ?_
    refine W.seq ?_
    refine W.reg X [] [] [2] [] rfl ⟨⟩ ?_
    refine W.ret ?_
    exact Fin.ret rfl ⟨by rw [List.take_of_length_le (by unfold pubs; rw [List.length_map]; exact hb0)], ⟨⟩⟩
theorem c_spec_GuiltyServers (x : Wld) (h0 : size_Wld x ≤ 1048576) (hsv : x.servers.length ≤ 1048576) : Sound ty Tryz.prog 17 [.agg (dec_Wld x)] [.a (.sl .int (guilty x))] := by
  refine Sound.of X Tryz.call17 Tryz.func17 rfl rfl (by decide) Tryz.ntmps17 (by simp) ?_
  intro zb
  refine W.seq ?_
  refine W.reg X [] [] [1] [] rfl ⟨⟩ ?_
  refine W.seq ?_
  refine W.seq ?_
  refine W.reg X [] [(6, ⟨false, [.a (.lit (.bool (okW x)))]⟩)] [1, 7] [] rfl (by (repeat' (first | with_reducible exact AllP.nil | with_reducible refine AllP.mk ?_ ?_ | with_reducible apply And.intro)) <;> skip; (iterate 1 (all_goals try (first | exact (c_spec_IsValidWorld x))))) ?_
  refine W.cond rfl (fun hb0 => ?_) (fun hb0 => ?_)
  · have hk : okW x = false := by simpa using hb0
    refine W.seq ?_
    refine W.reg X [] [] [2] [] rfl (by (repeat' (first | exact True.intro | apply And.intro)) <;> first | exact rfl) ?_
    refine W.ret ?_
    exact Fin.ret rfl ⟨by rw [guilty, if_neg (by rw [hk]; decide)], ⟨⟩⟩
  · have hk : okW x = true := by simpa using hb0
    have hcl := colS_len hk
    have hcs := colS_small hk
    refine W.skip ?_
    refine W.seq ?_
    refine W.reg X [] [(11, ⟨true, [.a (.sl .Srv (colS x)), .a (.sl .Rcp (colR x))]⟩)] [1, 3, 4] [] rfl (by (repeat' (first | with_reducible exact AllP.nil | with_reducible refine AllP.mk ?_ ?_ | with_reducible apply And.intro)) <;> skip; (iterate 1 (all_goals try (first | exact (c_spec_CollectShares x h0 hsv))))) ?_
    refine W.seq ?_
    refine W.draw X [] [(18, ⟨true, [.a (.sl .DB (pubs (colS x)))]⟩), (20, ⟨true, [.a (.sl .int (audR x.master (colS x) (pubs (colS x)) (colR x) (colS x).length))]⟩)] [2] [] 8 MO (by kernel_rfl) rfl (by (repeat' (first | with_reducible exact AllP.nil | with_reducible refine AllP.mk ?_ ?_ | with_reducible apply And.intro)) <;> skip; (iterate 2 (all_goals try (first | exact (c_spec_PublishAll (colS x) (by omega)) | exact (c_spec_AuditRound x.master (colS x) (pubs (colS x)) (colR x) (by omega) hcs (pubs_ok _)))))) ?_
    refine W.ret ?_
    exact Fin.ret rfl ⟨by rw [guilty, if_pos hk], ⟨⟩⟩
end Go.Proofs.YthjedjndamejmaaGreat.G
namespace Go.Proofs.YthjedjndamejmaaGreat.G
set_option linter.all false
open Go.RowKit L D
set_option maxRecDepth 100000
theorem guilty_le {x : Wld} (h : x.servers.length ≤ 1048576) : (guilty x).length ≤ 1048576 := by
  unfold guilty
  split
  · rename_i hk
    have := audR_len x.master (colS x) (pubs (colS x)) (colR x) (colS x).length
    rw [colS_len hk] at this ⊢
    omega
  · exact Nat.zero_le _
theorem c_FnExactGuiltyServers (x0 : Wld) (h_x0 : (wf_Wld) x0) : Sound ty Tryz.prog 4 [.agg (dec_Wld x0)] [.a (.lit (.bool true))] := by
  refine Sound.of X Tryz.call4 Tryz.func4 rfl rfl (by decide) Tryz.ntmps4 (by simp) ?_
  intro zb
  refine W.seq ?_
  refine W.reg X [] [] [1] [] rfl ⟨⟩ ?_
  refine W.seq ?_
  refine W.reg X [] [] [1, 3] [] rfl ⟨⟩ ?_
  refine W.seq ?_
  refine W.reg X [] [(13, ⟨false, [.a (.lit (.int .i64 (szr (1048576) (size_Wld x0))))]⟩)] [1, 3] [] rfl ⟨c_szWorld x0 (1048576) (by omega) (by omega), ⟨⟩⟩ ?_
  refine W.seq ?_
  refine W.seq ?_
  refine W.reg X [] [] [1, 15] [] rfl ⟨⟩ ?_
  refine W.cond rfl (fun hb0 => ?_) (fun hb0 => ?_)
  · try simp only [nb] at hb0
    refine W.seq ?_
    refine W.reg X [] [] [2] [] rfl ⟨⟩ ?_
    refine W.ret ?_
    exact Fin.ret rfl ⟨rfl, ⟨⟩⟩
  · try simp only [nb] at hb0
    obtain ⟨e0, e0'⟩ := szr_pos hb0
    rw [e0]
    have hsz : size_Wld x0 ≤ 1048576 := by omega
    have hmx := mnv_le_Wld x0
    have hdev := dev_le hsz
    have hsrv := srv_le hsz
    have hr : mnl (fun _ => 1) (guilty x0) ≤ 1048576 := by rw [mnl_one]; exact guilty_le hsrv
    refine W.skip ?_
    refine W.seq ?_
    refine W.reg X [(17, 225), (18, 250)] [(17, ⟨true, [.agg (dec_Wld x0)]⟩), (18, ⟨true, [.a (.sl .int (guilty x0))]⟩)] [1, 4] [] rfl ⟨c_spec_GuiltyServers x0 hsz hsrv, c_toWorld x0 (by omega), ⟨⟩⟩ ?_
    refine W.seq ?_
    refine W.reg X [(20, 275)] [(20, ⟨true, [.agg (dec_Wld x0)]⟩)] [1, 4, 5] [] rfl ⟨c_toWorld x0 (by omega), ⟨⟩⟩ ?_
    refine W.seq ?_
    refine W.reg X [(22, 300)] [(22, ⟨true, [.a (.sl .int (guilty x0))]⟩)] [1, 4, 5, 6] [] rfl ⟨c_impl_GuiltyServers x0 hsz hsrv, ⟨⟩⟩ ?_
    refine W.seq ?_
    refine W.seq ?_
    refine W.reg X [] [(25, ⟨false, [.a (.lit (.bool true))]⟩)] [1, 4, 5, 6, 26] [] rfl ⟨c_eqIntS (guilty x0), ⟨⟩⟩ ?_
    refine W.cond rfl (fun hb1 => ?_) (fun hb1 => ?_)
    · exact absurd hb1 (by first | (simp; done) | (simp; omega))
    · clear hb1
      refine W.skip ?_
      refine W.seq ?_
      refine W.seq ?_
      refine W.draw X [(29, 325)] [(29, ⟨true, [.agg (dec_Wld x0)]⟩), (30, ⟨false, [.a (.lit (.bool true))]⟩)] [1, 4, 5, 6, 31] [] 5 MO (by kernel_rfl) rfl ⟨c_eqWorld x0, c_toWorld x0 (by omega), ⟨⟩⟩ ?_
      refine W.cond rfl (fun hb2 => ?_) (fun hb2 => ?_)
      · exact absurd hb2 (by first | (simp; done) | (simp; omega))
      · clear hb2
        refine W.skip ?_
        refine W.seq ?_
        refine W.reg X [] [] [1, 4, 5, 6, 7] [] rfl ⟨⟩ ?_
        refine W.seq ?_
        refine W.reg X [] [(100034, ⟨false, [.a (.lit (.int .i64 (1 + (mnv_Wld x0 : Nat)))), .agg (dec_Wld (mkv_Wld (1) x0)), .a (.lit (.int .i64 (1)))]⟩)] [1, 4, 6, 7] [] rfl ⟨c_markWorld x0 (1) (by omega) (by omega), ⟨⟩⟩ ?_
        refine W.seq ?_
        refine W.seq ?_
        refine W.reg X [] [(40, ⟨false, [.a (.lit (.bool true))]⟩)] [1, 4, 6, 42] [] rfl ⟨fun _ => c_eqIntS (guilty x0), ⟨⟩⟩ ?_
        refine W.cond rfl (fun hb3 => ?_) (fun hb3 => ?_)
        · exact absurd hb3 (by first | (simp; done) | (simp; omega))
        · clear hb3
          refine W.skip ?_
          refine W.seq ?_
          refine W.reg X [] [] [1, 4, 6, 8] [] rfl ⟨⟩ ?_
          refine W.seq ?_
          refine W.reg X [] [(100045, ⟨false, [.a (.lit (.int .i64 (1 + ((mnl (fun _ => 1)) (guilty x0) : Nat)))), .a (.sl .int ((mkl (fun k _ => k) (fun _ => 1)) (1) (guilty x0))), .a (.lit (.int .i64 (1)))]⟩)] [1, 4, 6, 8] [] rfl ⟨c_markIntS (guilty x0) (1) (by omega) (by omega), ⟨⟩⟩ ?_
          refine W.seq ?_
          refine W.reg X [] [] [1, 4, 6, 8, 9] [] rfl ⟨⟩ ?_
          refine W.seq ?_
          refine W.reg X [] [(48, ⟨false, [.a (.lit (.int .i64 (1 + ((mnl (fun _ => 1)) (guilty x0) : Nat))))]⟩)] [1, 4, 6, 8, 9] [] rfl ⟨c_heldIntS (guilty x0) (1) (by omega) (by omega), ⟨⟩⟩ ?_
          refine W.seq ?_
          refine W.seq ?_
          refine W.reg X [] [] [1, 4, 6, 8, 9, 50] [] rfl ⟨⟩ ?_
          refine W.cond rfl (fun hb4 => ?_) (fun hb4 => ?_)
          · exact absurd hb4 (by first | (simp; done) | (simp; omega))
          · clear hb4
            refine W.skip ?_
            refine W.seq ?_
            refine W.seq ?_
            refine W.reg X [] [] [1, 4, 6, 8, 53] [] rfl ⟨⟩ ?_
            refine W.cond rfl (fun hb5 => ?_) (fun hb5 => ?_)
            · exact absurd hb5 (by first | (simp; done) | (simp; omega))
            · clear hb5
              refine W.skip ?_
              refine W.seq ?_
              refine W.reg X [(55, 350), (56, 375)] [(55, ⟨true, [.agg (dec_Wld x0)]⟩), (56, ⟨true, [.a (.sl .int (guilty x0))]⟩)] [4, 6, 8, 10] [] rfl ⟨c_impl_GuiltyServers x0 hsz hsrv, c_toWorld x0 (by omega), ⟨⟩⟩ ?_
              refine W.seq ?_
              refine W.seq ?_
              refine W.reg X [] [(59, ⟨false, [.a (.lit (.bool true))]⟩)] [6, 8, 60] [] rfl ⟨c_eqIntS (guilty x0), ⟨⟩⟩ ?_
              refine W.cond rfl (fun hb6 => ?_) (fun hb6 => ?_)
              · exact absurd hb6 (by first | (simp; done) | (simp; omega))
              · clear hb6
                refine W.skip ?_
                refine W.seq ?_
                refine W.reg X [] [] [6, 8, 9] [] rfl ⟨⟩ ?_
                refine W.seq ?_
                refine W.reg X [] [(63, ⟨false, [.a (.lit (.int .i64 (1 + ((mnl (fun _ => 1)) (guilty x0) : Nat))))]⟩)] [8, 9] [] rfl ⟨c_heldIntS (guilty x0) (1) (by omega) (by omega), ⟨⟩⟩ ?_
                refine W.seq ?_
                refine W.seq ?_
                refine W.reg X [] [] [8, 9, 65] [] rfl ⟨⟩ ?_
                refine W.cond rfl (fun hb7 => ?_) (fun hb7 => ?_)
                · exact absurd hb7 (by first | (simp; done) | (simp; omega))
                · clear hb7
                  refine W.skip ?_
                  refine W.seq ?_
                  refine W.seq ?_
                  refine W.reg X [] [] [68] [] rfl ⟨⟩ ?_
                  refine W.cond rfl (fun hb8 => ?_) (fun hb8 => ?_)
                  · exact absurd hb8 (by first | (simp; done) | (simp; omega))
                  · clear hb8
                    refine W.skip ?_
                    refine W.seq ?_
                    refine W.reg X [] [] [2] [] rfl ⟨⟩ ?_
                    refine W.ret ?_
                    exact Fin.ret rfl ⟨rfl, ⟨⟩⟩
end Go.Proofs.YthjedjndamejmaaGreat.G
