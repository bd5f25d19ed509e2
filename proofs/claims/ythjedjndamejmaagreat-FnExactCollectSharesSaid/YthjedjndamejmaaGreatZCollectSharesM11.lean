/-
  FnExactCollectShares, walked by the symbolic machine: it returns true.
-/
import Derived.Test.YthjedjndamejmaaGreatZCollectSharesM9
import Derived.Test.YthjedjndamejmaaGreatZCollectSharesM10
import Derived.Test.YthjedjndamejmaaGreatZCollectSharesM8
import Derived.Test.YthjedjndamejmaaGreatZCollectSharesM7
namespace Go.Proofs.YthjedjndamejmaaGreat.G
set_option linter.all false
open Go.RowKit L D
set_option maxRecDepth 100000
theorem c_impl_WriteShares (x : Wld) (c : Int) (hsv : x.servers.length ≤ 1048576) : Sound ty Tryz.prog 38 [.agg (dec_Wld x), .a (.lit (.int .i64 c))] [.a (.sl .DB (wshares x c))] := by
  refine Sound.of X Tryz.call38 Tryz.func38 rfl rfl (by decide) Tryz.ntmps38 (by simp) ?_
  intro zb
  refine W.boundA 0 2 rfl rfl (fun hl2 => ?_)
  have hcl := cwCell_len (liv x c) x.round x.rows
  have hwl := wseeds_len x c
  refine W.seq ?_
  refine W.reg X [] [] [1, 2] [] rfl ⟨⟩ ?_
  refine W.seq ?_
  refine W.seq ?_
  refine W.reg X [] [(9, ⟨false, [.a (.lit (.bool (okW x)))]⟩), (14, ⟨false, [.a (.lit (.bool (hasC x c)))]⟩)] [1, 2, 16] [] rfl (by (repeat' (first | with_reducible exact AllP.nil | with_reducible refine AllP.mk ?_ ?_ | with_reducible apply And.intro)) <;> skip; (iterate 2 (all_goals try (first | exact (c_impl_IsValidWorld x) | exact fun _ => (c_impl_hasClient x c))))) ?_
  refine W.cond rfl (fun hb0 => ?_) (fun hb0 => ?_)
  · have hk : wsOK x c = false := or_no1 hb0 (by simp only [wsOK, ite_tt, ite_ff, gt_iff_lt, ge_iff_le, not_dlt, not_dle, bne_not, deq, decide_not, ne_eq, Bool.not_and, Bool.not_or, Bool.not_not, Bool.and_true, Bool.true_and, Bool.or_false, Bool.false_or, Int.toNat_natCast] <;> first | rfl | ac_rfl)
    refine W.seq ?_
    refine W.reg X [] [] [4] [] rfl ⟨⟩ ?_
    refine W.ret ?_
    exact Fin.ret rfl ⟨by rw [wshares, if_neg (by rw [hk]; decide)], ⟨⟩⟩
  · have hk : wsOK x c = true := or_yes hb0 (by simp only [wsOK, ite_tt, ite_ff, gt_iff_lt, ge_iff_le, not_dlt, not_dle, bne_not, deq, decide_not, ne_eq, Bool.not_and, Bool.not_or, Bool.not_not, Bool.and_true, Bool.true_and, Bool.or_false, Bool.false_or, Int.toNat_natCast] <;> first | rfl | ac_rfl)
    have hkc := wsOK_c hk
    refine W.skip ?_
    refine W.seq ?_
    refine W.draw X [] [(28, ⟨true, [.a (.lit (.int .i64 (cwRow (liv x c) x.round x.rows))), .a (.sl .u8 (cwCell (liv x c) x.round x.rows)), .a (.lit (.bool (cwOK (liv x c) x.round x.rows)))]⟩)] [1, 2, 5, 6, 7] [] 18 MO (by kernel_rfl) rfl (by (repeat' (first | with_reducible exact AllP.nil | with_reducible refine AllP.mk ?_ ?_ | with_reducible apply And.intro)) <;> skip; (iterate 1 (all_goals try (first | exact (c_impl_ClientWrite (liv x c) x.round x.rows)))); all_goals (first | (intros; omega))) ?_
    refine W.seq ?_
    refine W.seq ?_
    refine W.reg X [] [] [1, 2, 5, 6, 33] [] rfl ⟨⟩ ?_
    refine W.cond rfl (fun hb1 => ?_) (fun hb1 => ?_)
    · have hw : cwOK (liv x c) x.round x.rows = false := by simpa using hb1
      refine W.seq ?_
      refine W.reg X [] [] [4] [] rfl ⟨⟩ ?_
      refine W.ret ?_
      exact Fin.ret rfl ⟨by rw [wshares, if_pos hk, sharesW_neg hw], ⟨⟩⟩
    · skip
      refine W.skip ?_
      refine W.seq ?_
      refine W.draw X [] [(40, ⟨true, [.a (.sl .int (wseeds x c))]⟩), (41, ⟨true, [.a (.sl .DB (makeW x.rows (cwRow (liv x c) x.round x.rows) (cwCell (liv x c) x.round x.rows) (wseeds x c)))]⟩)] [4] [] 9 MO (by kernel_rfl) rfl (by (repeat' (first | with_reducible exact AllP.nil | with_reducible refine AllP.mk ?_ ?_ | with_reducible apply And.intro)) <;> skip; (iterate 2 (all_goals try (first | exact (c_impl_WriteSeeds x c (by first | assumption | omega | (simp; done) | (simp; omega))) | exact (c_impl_MakeWrite x.rows (cwRow (liv x c) x.round x.rows) (cwCell (liv x c) x.round x.rows) (wseeds x c) (by first | assumption | omega | (simp; done) | (simp; omega)) (by first | assumption | omega | (simp; done) | (simp; omega))))))) ?_
      refine W.ret ?_
      exact Fin.ret rfl ⟨by rw [wshares, if_pos hk]; rfl, ⟨⟩⟩
theorem c_spec_l33Shares (x : Wld) (c : Int) (hsv : x.servers.length ≤ 1048576) (hc : 0 ≤ c ∧ c < x.devices.length) : Sound ty Tryz.prog 28 [.agg (dec_Wld x), .a (.lit (.int .i64 c))] [.a (.sl .DB (sharesW x c))] := by
  refine Sound.of X Tryz.call28 Tryz.func28 rfl rfl (by decide) Tryz.ntmps28 (by simp) ?_
  intro zb
  refine W.boundA 0 2 rfl rfl (fun hl2 => ?_)
  have hcl := cwCell_len (liv x c) x.round x.rows
  have hwl := wseeds_len x c
  refine W.seq ?_
  refine W.reg X [] [] [1, 2] [] rfl ⟨⟩ ?_
  refine W.seq ?_
  refine W.draw X [] [(19, ⟨true, [.a (.lit (.int .i64 (cwRow (liv x c) x.round x.rows))), .a (.sl .u8 (cwCell (liv x c) x.round x.rows)), .a (.lit (.bool (cwOK (liv x c) x.round x.rows)))]⟩)] [1, 2, 5, 6] [] 18 MO (by kernel_rfl) rfl (by (repeat' (first | with_reducible exact AllP.nil | with_reducible refine AllP.mk ?_ ?_ | with_reducible apply And.intro)) <;> skip; (iterate 1 (all_goals try (first | exact (c_spec_ClientWrite (liv x c) x.round x.rows)))); all_goals (first | (intros; omega))) ?_
  refine W.seq ?_
  refine W.draw X [] [(29, ⟨true, [.a (.sl .int (wseeds x c))]⟩), (30, ⟨true, [.a (.sl .DB (makeW x.rows (cwRow (liv x c) x.round x.rows) (cwCell (liv x c) x.round x.rows) (wseeds x c)))]⟩)] [4] [] 9 MO (by kernel_rfl) rfl (by (repeat' (first | with_reducible exact AllP.nil | with_reducible refine AllP.mk ?_ ?_ | with_reducible apply And.intro)) <;> skip; (iterate 2 (all_goals try (first | exact (c_spec_WriteSeeds x c (by first | assumption | omega | (simp; done) | (simp; omega))) | exact (c_spec_MakeWrite x.rows (cwRow (liv x c) x.round x.rows) (cwCell (liv x c) x.round x.rows) (wseeds x c) (by first | assumption | omega | (simp; done) | (simp; omega)) (by first | assumption | omega | (simp; done) | (simp; omega))))))) ?_
  refine W.ret ?_
  exact Fin.ret rfl ⟨rfl, ⟨⟩⟩
end Go.Proofs.YthjedjndamejmaaGreat.G
namespace Go.Proofs.YthjedjndamejmaaGreat.G
set_option linter.all false
open Go.RowKit L D
set_option maxRecDepth 100000
theorem c_impl_ServerKey (m s : Int) : Sound ty Tryz.prog 41 [.a (.lit (.int .i64 m)), .a (.lit (.int .i64 s))] [.a (.lit (.int .i64 (skey m s)))] := by
  refine Sound.of X Tryz.call41 Tryz.func41 rfl rfl (by decide) Tryz.ntmps41 (by simp) ?_
  intro zb
  refine W.seq ?_
  refine W.reg X [] [] [0, 1] [] rfl ⟨⟩ ?_
  refine W.seq ?_
  refine W.reg X [] [(8, ⟨false, [.a (.lit (.int .i64 (kh m [173, s])))]⟩), (9, ⟨false, [.a (.lit (.int .i64 (or1 (kh m [173, s]))))]⟩)] [4] [] rfl (by (repeat' (first | with_reducible exact AllP.nil | with_reducible refine AllP.mk ?_ ?_ | with_reducible apply And.intro)) <;> skip; (iterate 2 (all_goals try (first | exact (c_impl_KeyedHash m [173, s] (by first | assumption | omega | (simp; done) | (simp; omega))) | exact (c_impl_orOne (kh m [173, s]))))); all_goals (first | exact ⟨rfl, El_all _ (by decide)⟩)) ?_
  refine W.ret ?_
  exact Fin.ret rfl ⟨rfl, ⟨⟩⟩
theorem c_impl_DatabaseDigest (d : DB) (hs0 : lsz List.length d.rows ≤ 1048576) : Sound ty Tryz.prog 149 [.agg (dec_DB d)] [.a (.lit (.int .i64 (dgst d)))] := by
  refine Sound.of X Tryz.call149 Tryz.func149 rfl rfl (by decide) Tryz.ntmps149 (by simp) ?_
  intro zb
  have hll : d.rows.length ≤ 1048576 := lsz_len hs0
  refine W.seq ?_
  refine W.reg X [] [] [1] [] rfl ⟨⟩ ?_
  refine W.seq ?_
  refine W.reg X [] [] [1, 3] [] rfl (by (repeat' (first | exact True.intro | apply And.intro)) <;> first | exact rfl) ?_
  refine W.seq ?_
  refine W.seq ?_
  refine W.reg X [] [] [3, 11, 12, 13] [] rfl ⟨⟩ ?_
  refine W.block ?_
  refine W.loopO (fun k => k ≤ d.rows.length) (fun k : Nat => [(13, .one (.a (.lit (.int .i64 k))))]) (fun k => [(9, .arr .int ((d.rows.length : Int) :: (d.rows.take k).flatMap b2i))]) (fun k => d.rows.length - k) 0 (fun k => rfl) (Nat.zero_le _) rfl ?_
  intro k hk
  have hdl := dg_len d.rows k
  refine W.seq ?_
  refine W.reg X [] [] [3, 11, 12, 13, 14] [] rfl ⟨⟩ ?_
  refine W.seq ?_
  refine W.cond rfl (fun hb0 => ?_) (fun hb0 => ?_)
  · try simp only [nb, inr_t, inr_f, isEmpty_t] at hb0
    have hs := dg_step d.rows k hb0
    have hel : (d.rows.getD k (dfl (.sl .u8))).length ≤ 1048576 := lsz_mem (f := List.length) hs0 (getD_some d.rows _ k hb0)
    have hbl := b2i_len (d.rows.getD k (dfl (.sl .u8)))
    refine W.skip ?_
    refine W.seq ?_
    refine W.block ?_
    refine W.seq ?_
    refine W.reg X [] [] [3, 5, 11, 12, 13] [] rfl (by (repeat' (first | exact True.intro | apply And.intro)) <;> first | (intros; omega)) ?_
    refine W.reg X [(20, 9)] [(19, ⟨true, [.a (.sl .int (b2i (d.rows.getD k (dfl (.sl .u8)))))]⟩)] [3, 11, 12, 13] [] rfl (by (repeat' (first | with_reducible exact AllP.nil | with_reducible refine AllP.mk ?_ ?_ | with_reducible apply And.intro)) <;> skip; (iterate 1 (all_goals try (first | exact (c_impl_BytesToInts (d.rows.getD k (dfl (.sl .u8))) (by first | assumption | omega | (simp; done) | (simp; omega)))))); all_goals (first | exact rfl | (simp only [byt, maxLen, lens]; omega))) ?_
    refine W.reg X [] [] [3, 11, 12, 13] [] rfl ⟨⟩ ?_
    refine ⟨k + 1, by omega, by omega, ?_⟩
    rw [wadd _ k rfl (by omega), hs]
    try rfl
  · try simp only [nb, inr_t, inr_f, isEmpty_t] at hb0
    refine W.exit ?_
    refine W.seq ?_
    refine W.reg X [] [(23, ⟨false, [.a (.lit (.int .i64 (hsh ((d.rows.length : Int) :: (d.rows.take k).flatMap b2i))))]⟩)] [2] [] rfl (by (repeat' (first | with_reducible exact AllP.nil | with_reducible refine AllP.mk ?_ ?_ | with_reducible apply And.intro)) <;> skip; (iterate 1 (all_goals try (first | exact (c_impl_Hash ((d.rows.length : Int) :: (d.rows.take k).flatMap b2i) (by simp only [List.length_cons]; omega)))))) ?_
    refine W.ret ?_
    exact Fin.ret rfl ⟨by rw [List.take_of_length_le hb0]; rfl, ⟨⟩⟩
theorem c_impl_ShareDigest (c r : Int) (d : DB) (hs0 : lsz List.length d.rows ≤ 1048576) : Sound ty Tryz.prog 95 [.a (.lit (.int .i64 c)), .a (.lit (.int .i64 r)), .agg (dec_DB d)] [.a (.lit (.int .i64 (sdig c r d)))] := by
  refine Sound.of X Tryz.call95 Tryz.func95 rfl rfl (by decide) Tryz.ntmps95 (by simp) ?_
  intro zb
  refine W.seq ?_
  refine W.reg X [] [] [0, 1, 5] [] rfl ⟨⟩ ?_
  refine W.seq ?_
  refine W.reg X [] [(10, ⟨false, [.a (.lit (.int .i64 (dgst d)))]⟩), (12, ⟨false, [.a (.lit (.int .i64 (hsh [179, c, r, dgst d])))]⟩)] [6] [] rfl (by (repeat' (first | with_reducible exact AllP.nil | with_reducible refine AllP.mk ?_ ?_ | with_reducible apply And.intro)) <;> skip; (iterate 2 (all_goals try (first | exact (c_impl_DatabaseDigest d (by first | assumption | omega | (simp; done) | (simp; omega))) | exact (c_impl_Hash [179, c, r, dgst d] (by first | assumption | omega | (simp; done) | (simp; omega)))))); all_goals (first | exact ⟨rfl, El_all _ (by decide)⟩)) ?_
  refine W.ret ?_
  exact Fin.ret rfl ⟨rfl, ⟨⟩⟩
theorem c_impl_ReceiptMAC (key : Int) (r : Rcp) : Sound ty Tryz.prog 96 [.a (.lit (.int .i64 key)), .agg (dec_Rcp r)] [.a (.lit (.int .i64 (rmac key r.server r.client r.round r.digest)))] := by
  refine Sound.of X Tryz.call96 Tryz.func96 rfl rfl (by decide) Tryz.ntmps96 (by simp) ?_
  intro zb
  refine W.seq ?_
  refine W.reg X [] [] [0, 3] [] rfl ⟨⟩ ?_
  refine W.seq ?_
  refine W.reg X [] [(15, ⟨false, [.a (.lit (.int .i64 (kh key [181, r.server, r.client, r.round, r.digest])))]⟩)] [4] [] rfl (by (repeat' (first | with_reducible exact AllP.nil | with_reducible refine AllP.mk ?_ ?_ | with_reducible apply And.intro)) <;> skip; (iterate 1 (all_goals try (first | exact (c_impl_KeyedHash key [181, r.server, r.client, r.round, r.digest] (by first | assumption | omega | (simp; done) | (simp; omega)))))); all_goals (first | exact ⟨rfl, El_all _ (by decide)⟩)) ?_
  refine W.ret ?_
  exact Fin.ret rfl ⟨rfl, ⟨⟩⟩
theorem c_impl_MakeReceipt (key s c r : Int) (d : DB) (hs0 : lsz List.length d.rows ≤ 1048576) : Sound ty Tryz.prog 40 [.a (.lit (.int .i64 key)), .a (.lit (.int .i64 s)), .a (.lit (.int .i64 c)), .a (.lit (.int .i64 r)), .agg (dec_DB d)] [.agg (dec_Rcp (mkR key s c r d))] := by
  refine Sound.of X Tryz.call40 Tryz.func40 rfl rfl (by decide) Tryz.ntmps40 (by simp) ?_
  intro zb
  refine W.seq ?_
  refine W.reg X [] [] [0, 1, 2, 3, 9, 10] [] rfl ⟨⟩ ?_
  refine W.seq ?_
  refine W.reg X [] [(18, ⟨false, [.a (.lit (.int .i64 (sdig c r d)))]⟩)] [0, 10, 11] [] rfl (by (repeat' (first | with_reducible exact AllP.nil | with_reducible refine AllP.mk ?_ ?_ | with_reducible apply And.intro)) <;> skip; (iterate 1 (all_goals try (first | exact (c_impl_ShareDigest c r d (by first | assumption | omega | (simp; done) | (simp; omega))))))) ?_
  refine W.seq ?_
  refine W.reg X [] [(22, ⟨false, [.a (.lit (.int .i64 (rmac key (⟨s, c, r, sdig c r d, 0⟩ : Rcp).server (⟨s, c, r, sdig c r d, 0⟩ : Rcp).client (⟨s, c, r, sdig c r d, 0⟩ : Rcp).round (⟨s, c, r, sdig c r d, 0⟩ : Rcp).digest)))]⟩)] [10, 11] [] rfl (by (repeat' (first | with_reducible exact AllP.nil | with_reducible refine AllP.mk ?_ ?_ | with_reducible apply And.intro)) <;> skip; (iterate 1 (all_goals try (first | exact (c_impl_ReceiptMAC key (⟨s, c, r, sdig c r d, 0⟩ : Rcp)))))) ?_
  refine W.seq ?_
  refine W.reg X [] [] [10] [] rfl (by (repeat' (first | exact True.intro | apply And.intro))) ?_
  refine W.ret ?_
  exact Fin.ret rfl ⟨rfl, rfl, rfl, rfl, rfl, ⟨⟩⟩
theorem c_impl_copyServer (s : Srv) (hz : s.received.length ≤ 1048576 ∧ ∀ r, r ∈ s.received → lsz List.length r.share.rows ≤ 1048576) : Sound ty Tryz.prog 85 [.agg (dec_Srv s)] [.agg (dec_Srv s)] := by
  refine Sound.of X Tryz.call85 Tryz.func85 rfl rfl (by decide) Tryz.ntmps85 (by simp) ?_
  intro zb
  refine W.seq ?_
  refine W.reg X [] [] [1, 2] [] rfl ⟨⟩ ?_
  refine W.seq ?_
  refine W.reg X [] [] [1, 2, 3] [] rfl (by (repeat' (first | exact True.intro | apply And.intro)) <;> first | exact rfl) ?_
  refine W.seq ?_
  refine W.seq ?_
  refine W.reg X [] [] [1, 2, 3, 8, 9, 10] [] rfl ⟨⟩ ?_
  refine W.block ?_
  refine W.loopO (fun k => k ≤ s.received.length) (fun k : Nat => [(10, .one (.a (.lit (.int .i64 k))))]) (fun k => [(6, .arr .RShare (s.received.take k))]) (fun k => s.received.length - k) 0 (fun k => rfl) (Nat.zero_le _) rfl ?_
  intro k hk
  have hle := take_le_len s.received k
  refine W.seq ?_
  refine W.reg X [] [] [1, 2, 3, 8, 9, 10, 11] [] rfl ⟨⟩ ?_
  refine W.seq ?_
  refine W.cond rfl (fun hb0 => ?_) (fun hb0 => ?_)
  · try simp only [nb, inr_t, inr_f, isEmpty_t] at hb0
    have hs := take_snoc s.received k (dfl .RShare) hb0
    refine W.skip ?_
    refine W.seq ?_
    refine W.block ?_
    refine W.seq ?_
    refine W.reg X [] [] [1, 2, 3, 5, 8, 9, 10] [] rfl (by (repeat' (first | exact True.intro | apply And.intro)) <;> first | (intros; omega)) ?_
    refine W.draw X [(22, 6)] [(19, ⟨true, [.agg (dec_DB ((s.received.getD k (dfl .RShare)).share))]⟩), (500021, ⟨true, []⟩)] [1, 2, 3, 8, 9, 10] [] 8 MO (by kernel_rfl) rfl (by (repeat' (first | with_reducible exact AllP.nil | with_reducible refine AllP.mk ?_ ?_ | with_reducible apply And.intro)) <;> skip; (iterate 1 (all_goals try (first | exact (c_impl_copyDatabase ((s.received.getD k (dfl .RShare)).share) (hz.2 _ (getD_in _ hb0)))))); all_goals (first | exact rfl | exact ⟨rfl, El_all _ (by decide)⟩ | (simp only [byt, maxLen, lens]; omega))) ?_
    refine W.reg X [] [] [1, 2, 3, 8, 9, 10] [] rfl ⟨⟩ ?_
    refine ⟨k + 1, by omega, by omega, ?_⟩
    rw [wadd _ k rfl (by omega), hs]
    try rfl
  · try simp only [nb, inr_t, inr_f, isEmpty_t] at hb0
    refine W.exit ?_
    refine W.seq ?_
    refine W.reg X [] [] [1, 2] [] rfl ⟨⟩ ?_
    refine W.seq ?_
    refine W.reg X [] [] [2] [] rfl (by (repeat' (first | exact True.intro | apply And.intro))) ?_
    refine W.ret ?_
    exact Fin.ret rfl ⟨rfl, rfl, rfl, by rw [List.take_of_length_le hb0], rfl, ⟨⟩⟩
theorem c_impl_copyServers (l : List Srv) (hl : l.length ≤ 1048576) (hz : ∀ s, s ∈ l → smallS s) : Sound ty Tryz.prog 37 [.a (.sl .Srv l)] [.a (.sl .Srv l)] := by
  refine Sound.of X Tryz.call37 Tryz.func37 rfl rfl (by decide) Tryz.ntmps37 (by simp) ?_
  intro zb
  refine W.seq ?_
  refine W.reg X [] [] [0] [] rfl ⟨⟩ ?_
  refine W.seq ?_
  refine W.reg X [] [] [0, 3] [] rfl (by (repeat' (first | exact True.intro | apply And.intro)) <;> first | exact rfl) ?_
  refine W.seq ?_
  refine W.seq ?_
  refine W.reg X [] [] [3, 7, 8, 9] [] rfl ⟨⟩ ?_
  refine W.block ?_
  refine W.loopO (fun k => k ≤ l.length) (fun k : Nat => [(9, .one (.a (.lit (.int .i64 k))))]) (fun k => [(6, .arr .Srv (l.take k))]) (fun k => l.length - k) 0 (fun k => rfl) (Nat.zero_le _) rfl ?_
  intro k hk
  have hle := take_le_len l k
  refine W.seq ?_
  refine W.reg X [] [] [3, 7, 8, 9, 10] [] rfl ⟨⟩ ?_
  refine W.seq ?_
  refine W.cond rfl (fun hb0 => ?_) (fun hb0 => ?_)
  · try simp only [nb, inr_t, inr_f, isEmpty_t] at hb0
    have hs := take_snoc l k (dfl .Srv) hb0
    refine W.skip ?_
    refine W.seq ?_
    refine W.block ?_
    refine W.seq ?_
    refine W.reg X [] [] [3, 5, 7, 8, 9] [] rfl (by (repeat' (first | exact True.intro | apply And.intro)) <;> first | (intros; omega)) ?_
    refine W.reg X [(17, 6)] [(15, ⟨true, [.agg (dec_Srv (l.getD k (dfl .Srv)))]⟩)] [3, 7, 8, 9] [] rfl (by (repeat' (first | with_reducible exact AllP.nil | with_reducible refine AllP.mk ?_ ?_ | with_reducible apply And.intro)) <;> skip; (iterate 1 (all_goals try (first | exact (c_impl_copyServer (l.getD k (dfl .Srv)) (hz _ (getD_in _ hb0)))))); all_goals (first | exact rfl | (simp only [byt, maxLen, lens]; omega))) ?_
    refine W.reg X [] [] [3, 7, 8, 9] [] rfl ⟨⟩ ?_
    refine ⟨k + 1, by omega, by omega, ?_⟩
    rw [wadd _ k rfl (by omega), hs]
    try rfl
  · try simp only [nb, inr_t, inr_f, isEmpty_t] at hb0
    refine W.exit ?_
    refine W.seq ?_
    refine W.reg X [] [] [2] [] rfl ⟨⟩ ?_
    refine W.ret ?_
    exact Fin.ret rfl ⟨by rw [List.take_of_length_le hb0], ⟨⟩⟩
theorem c_spec_ServerKey (m s : Int) : Sound ty Tryz.prog 31 [.a (.lit (.int .i64 m)), .a (.lit (.int .i64 s))] [.a (.lit (.int .i64 (skey m s)))] := by
  refine Sound.of X Tryz.call31 Tryz.func31 rfl rfl (by decide) Tryz.ntmps31 (by simp) ?_
  intro zb
  refine W.seq ?_
  refine W.reg X [] [] [0, 1] [] rfl ⟨⟩ ?_
  refine W.seq ?_
  refine W.reg X [] [(8, ⟨false, [.a (.lit (.int .i64 (kh m [173, s])))]⟩), (9, ⟨false, [.a (.lit (.int .i64 (if (kh m [173, s]) > 1 then (kh m [173, s]) else 1)))]⟩)] [4] [] rfl (by (repeat' (first | with_reducible exact AllP.nil | with_reducible refine AllP.mk ?_ ?_ | with_reducible apply And.intro)) <;> skip; (iterate 2 (all_goals try (first | exact (c_spec_KeyedHash m [173, s] (by first | assumption | omega | (simp; done) | (simp; omega))) | exact (c_spec_Max 1 (kh m [173, s]))))); all_goals (first | exact ⟨rfl, El_all _ (by decide)⟩)) ?_
  refine W.ret ?_
  exact Fin.ret rfl ⟨by rw [skey_max], ⟨⟩⟩
theorem c_spec_DatabaseDigest (d : DB) (hs0 : lsz List.length d.rows ≤ 1048576) : Sound ty Tryz.prog 129 [.agg (dec_DB d)] [.a (.lit (.int .i64 (dgst d)))] := by
  refine Sound.of X Tryz.call129 Tryz.func129 rfl rfl (by decide) Tryz.ntmps129 (by simp) ?_
  intro zb
  have hll : d.rows.length ≤ 1048576 := lsz_len hs0
  refine W.seq ?_
  refine W.reg X [] [] [1] [] rfl ⟨⟩ ?_
  refine W.seq ?_
  refine W.reg X [] [] [1, 3] [] rfl (by (repeat' (first | exact True.intro | apply And.intro)) <;> first | exact rfl) ?_
  refine W.seq ?_
  refine W.seq ?_
  refine W.reg X [] [] [1, 3, 4] [] rfl ⟨⟩ ?_
  refine W.block ?_
  refine W.loopO (fun k => k ≤ d.rows.length) (fun k : Nat => [(4, .one (.a (.lit (.int .i64 k))))]) (fun k => [(8, .arr .int ((d.rows.length : Int) :: (d.rows.take k).flatMap b2i))]) (fun k => d.rows.length - k) 0 (fun k => rfl) (Nat.zero_le _) rfl ?_
  intro k hk
  have hdl := dg_len d.rows k
  refine W.seq ?_
  refine W.seq ?_
  refine W.reg X [] [] [1, 3, 4, 13] [] rfl ⟨⟩ ?_
  refine W.cond rfl (fun hb0 => ?_) (fun hb0 => ?_)
  · try simp only [nb, inr_t, inr_f, isEmpty_t] at hb0
    have hs := dg_step d.rows k hb0
    have hel : (d.rows.getD k (dfl (.sl .u8))).length ≤ 1048576 := lsz_mem (f := List.length) hs0 (getD_some d.rows _ k hb0)
    have hbl := b2i_len (d.rows.getD k (dfl (.sl .u8)))
    refine W.skip ?_
    refine W.seq ?_
    refine W.block ?_
    refine W.reg X [(23, 8)] [(22, ⟨true, [.a (.sl .int (b2i (d.rows.getD k (dfl (.sl .u8)))))]⟩)] [1, 3, 4] [] rfl (by (repeat' (first | with_reducible exact AllP.nil | with_reducible refine AllP.mk ?_ ?_ | with_reducible apply And.intro)) <;> skip; (iterate 1 (all_goals try (first | exact (c_spec_BytesToInts (d.rows.getD k (dfl (.sl .u8))) (by first | assumption | omega | (simp; done) | (simp; omega)))))); all_goals (first | (intros; omega) | exact rfl | (simp only [byt, maxLen, lens]; omega))) ?_
    refine W.reg X [] [] [1, 3, 4] [] rfl ⟨⟩ ?_
    refine ⟨k + 1, by omega, by omega, ?_⟩
    rw [wadd _ k rfl (by omega), hs]
    try rfl
  · try simp only [nb, inr_t, inr_f, isEmpty_t] at hb0
    refine W.exit ?_
    refine W.seq ?_
    refine W.reg X [] [(25, ⟨false, [.a (.lit (.int .i64 (hsh ((d.rows.length : Int) :: (d.rows.take k).flatMap b2i))))]⟩)] [2] [] rfl (by (repeat' (first | with_reducible exact AllP.nil | with_reducible refine AllP.mk ?_ ?_ | with_reducible apply And.intro)) <;> skip; (iterate 1 (all_goals try (first | exact (c_spec_Hash ((d.rows.length : Int) :: (d.rows.take k).flatMap b2i) (by simp only [List.length_cons]; omega)))))) ?_
    refine W.ret ?_
    exact Fin.ret rfl ⟨by rw [List.take_of_length_le hb0]; rfl, ⟨⟩⟩
theorem c_spec_ShareDigest (c r : Int) (d : DB) (hs0 : lsz List.length d.rows ≤ 1048576) : Sound ty Tryz.prog 71 [.a (.lit (.int .i64 c)), .a (.lit (.int .i64 r)), .agg (dec_DB d)] [.a (.lit (.int .i64 (sdig c r d)))] := by
  refine Sound.of X Tryz.call71 Tryz.func71 rfl rfl (by decide) Tryz.ntmps71 (by simp) ?_
  intro zb
  refine W.seq ?_
  refine W.reg X [] [] [0, 1, 5] [] rfl ⟨⟩ ?_
  refine W.seq ?_
  refine W.reg X [] [(10, ⟨false, [.a (.lit (.int .i64 (dgst d)))]⟩), (12, ⟨false, [.a (.lit (.int .i64 (hsh [179, c, r, dgst d])))]⟩)] [6] [] rfl (by (repeat' (first | with_reducible exact AllP.nil | with_reducible refine AllP.mk ?_ ?_ | with_reducible apply And.intro)) <;> skip; (iterate 2 (all_goals try (first | exact (c_spec_DatabaseDigest d (by first | assumption | omega | (simp; done) | (simp; omega))) | exact (c_spec_Hash [179, c, r, dgst d] (by first | assumption | omega | (simp; done) | (simp; omega)))))); all_goals (first | exact ⟨rfl, El_all _ (by decide)⟩)) ?_
  refine W.ret ?_
  exact Fin.ret rfl ⟨rfl, ⟨⟩⟩
theorem c_spec_ReceiptMAC (key : Int) (r : Rcp) : Sound ty Tryz.prog 72 [.a (.lit (.int .i64 key)), .agg (dec_Rcp r)] [.a (.lit (.int .i64 (rmac key r.server r.client r.round r.digest)))] := by
  refine Sound.of X Tryz.call72 Tryz.func72 rfl rfl (by decide) Tryz.ntmps72 (by simp) ?_
  intro zb
  refine W.seq ?_
  refine W.reg X [] [] [0, 3] [] rfl ⟨⟩ ?_
  refine W.seq ?_
  refine W.reg X [] [(15, ⟨false, [.a (.lit (.int .i64 (kh key [181, r.server, r.client, r.round, r.digest])))]⟩)] [4] [] rfl (by (repeat' (first | with_reducible exact AllP.nil | with_reducible refine AllP.mk ?_ ?_ | with_reducible apply And.intro)) <;> skip; (iterate 1 (all_goals try (first | exact (c_spec_KeyedHash key [181, r.server, r.client, r.round, r.digest] (by first | assumption | omega | (simp; done) | (simp; omega)))))); all_goals (first | exact ⟨rfl, El_all _ (by decide)⟩)) ?_
  refine W.ret ?_
  exact Fin.ret rfl ⟨rfl, ⟨⟩⟩
theorem c_spec_MakeReceipt (key s c r : Int) (d : DB) (hs0 : lsz List.length d.rows ≤ 1048576) : Sound ty Tryz.prog 30 [.a (.lit (.int .i64 key)), .a (.lit (.int .i64 s)), .a (.lit (.int .i64 c)), .a (.lit (.int .i64 r)), .agg (dec_DB d)] [.agg (dec_Rcp (mkR key s c r d))] := by
  refine Sound.of X Tryz.call30 Tryz.func30 rfl rfl (by decide) Tryz.ntmps30 (by simp) ?_
  intro zb
  refine W.seq ?_
  refine W.reg X [] [] [0, 1, 2, 3, 9, 10] [] rfl ⟨⟩ ?_
  refine W.seq ?_
  refine W.reg X [] [(18, ⟨false, [.a (.lit (.int .i64 (sdig c r d)))]⟩)] [0, 10, 11] [] rfl (by (repeat' (first | with_reducible exact AllP.nil | with_reducible refine AllP.mk ?_ ?_ | with_reducible apply And.intro)) <;> skip; (iterate 1 (all_goals try (first | exact (c_spec_ShareDigest c r d (by first | assumption | omega | (simp; done) | (simp; omega))))))) ?_
  refine W.seq ?_
  refine W.reg X [] [(22, ⟨false, [.a (.lit (.int .i64 (rmac key (⟨s, c, r, sdig c r d, 0⟩ : Rcp).server (⟨s, c, r, sdig c r d, 0⟩ : Rcp).client (⟨s, c, r, sdig c r d, 0⟩ : Rcp).round (⟨s, c, r, sdig c r d, 0⟩ : Rcp).digest)))]⟩)] [10, 11] [] rfl (by (repeat' (first | with_reducible exact AllP.nil | with_reducible refine AllP.mk ?_ ?_ | with_reducible apply And.intro)) <;> skip; (iterate 1 (all_goals try (first | exact (c_spec_ReceiptMAC key (⟨s, c, r, sdig c r d, 0⟩ : Rcp)))))) ?_
  refine W.seq ?_
  refine W.reg X [] [] [10] [] rfl (by (repeat' (first | exact True.intro | apply And.intro))) ?_
  refine W.ret ?_
  exact Fin.ret rfl ⟨rfl, rfl, rfl, rfl, rfl, ⟨⟩⟩
theorem c_spec_l25Copy (s : Srv) (hz : s.received.length ≤ 1048576 ∧ ∀ r, r ∈ s.received → lsz List.length r.share.rows ≤ 1048576) : Sound ty Tryz.prog 63 [.agg (dec_Srv s)] [.agg (dec_Srv s)] := by
  refine Sound.of X Tryz.call63 Tryz.func63 rfl rfl (by decide) Tryz.ntmps63 (by simp) ?_
  intro zb
  refine W.seq ?_
  refine W.reg X [] [] [1, 2] [] rfl ⟨⟩ ?_
  refine W.seq ?_
  refine W.reg X [] [] [1, 2, 3] [] rfl (by (repeat' (first | exact True.intro | apply And.intro))) ?_
  refine W.seq ?_
  refine W.reg X [] [] [1, 2, 3] [] rfl (by (repeat' (first | exact True.intro | apply And.intro)) <;> first | exact rfl) ?_
  refine W.seq ?_
  refine W.seq ?_
  refine W.reg X [] [] [1, 2, 3, 4] [] rfl ⟨⟩ ?_
  refine W.block ?_
  refine W.loopO (fun k => k ≤ s.received.length) (fun k : Nat => [(4, .one (.a (.lit (.int .i64 k))))]) (fun k => [(6, .arr .RShare (s.received.take k))]) (fun k => s.received.length - k) 0 (fun k => rfl) (Nat.zero_le _) rfl ?_
  intro k hk
  have hle := take_le_len s.received k
  refine W.seq ?_
  refine W.seq ?_
  refine W.reg X [] [] [1, 2, 3, 4, 12] [] rfl ⟨⟩ ?_
  refine W.cond rfl (fun hb0 => ?_) (fun hb0 => ?_)
  · try simp only [nb, inr_t, inr_f, isEmpty_t] at hb0
    have hs := take_snoc s.received k (dfl .RShare) hb0
    refine W.skip ?_
    refine W.seq ?_
    refine W.block ?_
    refine W.draw X [(32, 6)] [(29, ⟨true, [.agg (dec_DB ((s.received.getD k (dfl .RShare)).share))]⟩), (500031, ⟨true, []⟩)] [1, 2, 3, 4] [] 17 MO (by kernel_rfl) rfl (by (repeat' (first | with_reducible exact AllP.nil | with_reducible refine AllP.mk ?_ ?_ | with_reducible apply And.intro)) <;> skip; (iterate 1 (all_goals try (first | exact (c_spec_l8Copy ((s.received.getD k (dfl .RShare)).share) (hz.2 _ (getD_in _ hb0)))))); all_goals (first | (intros; omega) | exact rfl | exact ⟨rfl, El_all _ (by decide)⟩ | (simp only [byt, maxLen, lens]; omega))) ?_
    refine W.reg X [] [] [1, 2, 3, 4] [] rfl ⟨⟩ ?_
    refine ⟨k + 1, by omega, by omega, ?_⟩
    rw [wadd _ k rfl (by omega), hs]
    try rfl
  · try simp only [nb, inr_t, inr_f, isEmpty_t] at hb0
    refine W.exit ?_
    refine W.seq ?_
    refine W.reg X [] [] [2] [] rfl (by (repeat' (first | exact True.intro | apply And.intro))) ?_
    refine W.ret ?_
    exact Fin.ret rfl ⟨rfl, rfl, rfl, by rw [List.take_of_length_le hb0], rfl, ⟨⟩⟩
end Go.Proofs.YthjedjndamejmaaGreat.G
namespace Go.Proofs.YthjedjndamejmaaGreat.G
set_option linter.all false
open Go.RowKit L D
set_option maxRecDepth 100000
theorem c_spec_l29Copy (c : Cli) (h0 : lsz List.length c.submitted ≤ 1048576 ∧ lsz List.length c.inbox ≤ 1048576) : Sound ty Tryz.prog 115 [.agg (dec_Cli c)] [.agg (dec_Cli c)] := by
  refine Sound.of X Tryz.call115 Tryz.func115 rfl rfl (by decide) Tryz.ntmps115 (by simp) ?_
  intro zb
  refine W.seq ?_
  refine W.reg X [] [] [1, 2] [] rfl ⟨⟩ ?_
  refine W.seq ?_
  refine W.reg X [] [] [1, 2, 3] [] rfl (by (repeat' (first | exact True.intro | apply And.intro))) ?_
  refine W.seq ?_
  refine W.reg X [] [(7, ⟨true, [.a (.sl (.sl .u8) c.submitted)]⟩)] [1, 2, 3] [] rfl (by (repeat' (first | with_reducible exact AllP.nil | with_reducible refine AllP.mk ?_ ?_ | with_reducible apply And.intro)) <;> skip; (iterate 1 (all_goals try (first | exact (c_spec_l4Copy c.submitted h0.1))))) ?_
  refine W.seq ?_
  refine W.reg X [] [(11, ⟨true, [.a (.sl (.sl .u8) c.inbox)]⟩)] [2, 3] [] rfl (by (repeat' (first | with_reducible exact AllP.nil | with_reducible refine AllP.mk ?_ ?_ | with_reducible apply And.intro)) <;> skip; (iterate 1 (all_goals try (first | exact (c_spec_l4Copy c.inbox h0.2))))) ?_
  refine W.seq ?_
  refine W.reg X [] [] [2] [] rfl (by (repeat' (first | exact True.intro | apply And.intro))) ?_
  refine W.ret ?_
  exact Fin.ret rfl ⟨rfl, rfl, rfl, rfl, rfl, rfl, rfl, rfl, ⟨⟩⟩
theorem c_spec_l30Copy (d : Dev) (h0 : size_Dev d ≤ 1048576) : Sound ty Tryz.prog 64 [.agg (dec_Dev d)] [.agg (dec_Dev d)] := by
  refine Sound.of X Tryz.call64 Tryz.func64 rfl rfl (by decide) Tryz.ntmps64 (by simp) ?_
  intro zb
  have hc1 : size_Cli d.live ≤ 1048576 ∧ size_Cli d.saved ≤ 1048576 := by unfold size_Dev at h0; omega
  unfold size_Cli at hc1
  refine W.seq ?_
  refine W.reg X [] [] [1, 2] [] rfl ⟨⟩ ?_
  refine W.seq ?_
  refine W.draw X [] [(5, ⟨true, [.agg (dec_Cli d.live)]⟩), (8, ⟨true, [.agg (dec_Cli d.saved)]⟩)] [2] [] 7 MO (by kernel_rfl) rfl (by (repeat' (first | with_reducible exact AllP.nil | with_reducible refine AllP.mk ?_ ?_ | with_reducible apply And.intro)) <;> skip; (iterate 2 (all_goals try (first | exact (c_spec_l29Copy d.live ⟨by omega, by omega⟩) | exact (c_spec_l29Copy d.saved ⟨by omega, by omega⟩))))) ?_
  refine W.ret ?_
  exact Fin.ret rfl ⟨rfl, rfl, rfl, rfl, rfl, rfl, rfl, rfl, rfl, rfl, rfl, rfl, rfl, rfl, rfl, rfl, ⟨⟩⟩
theorem c_spec_l28Copy (a : Arc) (h0 : size_Arc a ≤ 1048576) : Sound ty Tryz.prog 65 [.agg (dec_Arc a)] [.agg (dec_Arc a)] := by
  refine Sound.of X Tryz.call65 Tryz.func65 rfl rfl (by decide) Tryz.ntmps65 (by simp) ?_
  intro zb
  have hls : lsz size_ARound a.rounds ≤ 1048576 := h0
  have hll := lsz_len hls
  refine W.seq ?_
  refine W.reg X [] [] [1, 2] [] rfl ⟨⟩ ?_
  refine W.seq ?_
  refine W.reg X [] [] [1, 2, 3] [] rfl ⟨⟩ ?_
  refine W.nilOwn 3 1 60 .ARound rfl ?_
  refine W.seq ?_
  refine W.seq ?_
  refine W.reg X [] [] [1, 2, 3, 4] [] rfl ⟨⟩ ?_
  refine W.block ?_
  refine W.loopO (fun k => k ≤ a.rounds.length) (fun k : Nat => [(4, .one (.a (.lit (.int .i64 k))))]) (fun k => [(60, .arr .ARound (a.rounds.take k))]) (fun k => a.rounds.length - k) 0 (fun k => rfl) (Nat.zero_le _) rfl ?_
  intro k hk
  have hle := take_le_len a.rounds k
  refine W.seq ?_
  refine W.seq ?_
  refine W.reg X [] [] [1, 2, 3, 4, 12] [] rfl ⟨⟩ ?_
  refine W.cond rfl (fun hb0 => ?_) (fun hb0 => ?_)
  · try simp only [nb, inr_t, inr_f, isEmpty_t] at hb0
    have hs := take_snoc a.rounds k (dfl .ARound) hb0
    refine W.skip ?_
    refine W.seq ?_
    refine W.block ?_
    refine W.draw X [(32, 60)] [(29, ⟨true, [.agg (dec_DB ((a.rounds.getD k (dfl .ARound)).db))]⟩), (500031, ⟨true, []⟩)] [1, 2, 3, 4] [] 17 MO (by kernel_rfl) rfl (by (repeat' (first | with_reducible exact AllP.nil | with_reducible refine AllP.mk ?_ ?_ | with_reducible apply And.intro)) <;> skip; (iterate 1 (all_goals try (first | exact (c_spec_l8Copy ((a.rounds.getD k (dfl .ARound)).db) (lsz_mem hls (getD_some a.rounds _ k hb0)))))); all_goals (first | (intros; omega) | exact rfl | exact ⟨rfl, El_all _ (by decide)⟩ | (simp only [byt, maxLen, lens]; omega))) ?_
    refine W.reg X [] [] [1, 2, 3, 4] [] rfl ⟨⟩ ?_
    refine ⟨k + 1, by omega, by omega, ?_⟩
    rw [wadd _ k rfl (by omega), hs]
    try rfl
  · try simp only [nb, inr_t, inr_f, isEmpty_t] at hb0
    refine W.exit ?_
    refine W.seq ?_
    refine W.reg X [] [] [2] [] rfl (by (repeat' (first | exact True.intro | apply And.intro))) ?_
    refine W.ret ?_
    exact Fin.ret rfl ⟨rfl, by rw [List.take_of_length_le hb0], ⟨⟩⟩
theorem c_spec_l32Copy (x : Wld) (h0 : size_Wld x ≤ 1048576) : Sound ty Tryz.prog 27 [.agg (dec_Wld x)] [.agg (dec_Wld x)] := by
  refine Sound.of X Tryz.call27 Tryz.func27 rfl rfl (by decide) Tryz.ntmps27 (by simp) ?_
  intro zb
  have hls : lsz size_Srv x.servers ≤ 1048576 ∧ lsz size_Dev x.devices ≤ 1048576 ∧ size_Arc x.archive ≤ 1048576 ∧ x.replaced.length ≤ 1048576 := by unfold size_Wld at h0; omega
  have hl1 := lsz_len hls.1
  have hl2 := lsz_len hls.2.1
  refine W.seq ?_
  refine W.reg X [] [] [1, 2] [] rfl ⟨⟩ ?_
  refine W.seq ?_
  refine W.reg X [] [] [1, 2, 3] [] rfl (by (repeat' (first | exact True.intro | apply And.intro))) ?_
  refine W.seq ?_
  refine W.reg X [] [] [1, 2, 3] [] rfl (by (repeat' (first | exact True.intro | apply And.intro)) <;> first | exact rfl) ?_
  refine W.seq ?_
  refine W.seq ?_
  refine W.reg X [] [] [1, 2, 3, 4] [] rfl ⟨⟩ ?_
  refine W.block ?_
  refine W.loopO (fun k => k ≤ x.servers.length) (fun k : Nat => [(4, .one (.a (.lit (.int .i64 k))))]) (fun k => [(7, .arr .Srv (x.servers.take k))]) (fun k => x.servers.length - k) 0 (fun k => rfl) (Nat.zero_le _) rfl ?_
  intro k hk
  have hle := take_le_len x.servers k
  refine W.seq ?_
  refine W.seq ?_
  refine W.reg X [] [] [1, 2, 3, 4, 13] [] rfl ⟨⟩ ?_
  refine W.cond rfl (fun hb0 => ?_) (fun hb0 => ?_)
  · try simp only [nb, inr_t, inr_f, isEmpty_t] at hb0
    have hs := take_snoc x.servers k (dfl .Srv) hb0
    have hss := srv_small hls.1 (getD_some x.servers (dfl .Srv) k hb0)
    refine W.skip ?_
    refine W.seq ?_
    refine W.block ?_
    refine W.draw X [(25, 7)] [(23, ⟨true, [.agg (dec_Srv (x.servers.getD k (dfl .Srv)))]⟩), (500024, ⟨true, []⟩)] [1, 2, 3, 4] [] 9 MO (by kernel_rfl) rfl (by (repeat' (first | with_reducible exact AllP.nil | with_reducible refine AllP.mk ?_ ?_ | with_reducible apply And.intro)) <;> skip; (iterate 1 (all_goals try (first | exact (c_spec_l25Copy (x.servers.getD k (dfl .Srv)) hss)))); all_goals (first | (intros; omega) | exact rfl | exact ⟨rfl, El_all _ (by decide)⟩ | (simp only [byt, maxLen, lens]; omega))) ?_
    refine W.reg X [] [] [1, 2, 3, 4] [] rfl ⟨⟩ ?_
    refine ⟨k + 1, by omega, by omega, ?_⟩
    rw [wadd _ k rfl (by omega), hs]
    try rfl
  · try simp only [nb, inr_t, inr_f, isEmpty_t] at hb0
    refine W.exit ?_
    refine W.seq ?_
    refine W.reg X [] [] [1, 2, 3] [] rfl (by (repeat' (first | exact True.intro | apply And.intro)) <;> first | exact rfl) ?_
    refine W.seq ?_
    refine W.seq ?_
    refine W.reg X [] [] [1, 2, 3, 5] [] rfl ⟨⟩ ?_
    refine W.block ?_
    refine W.loopO (fun k1 => k1 ≤ x.devices.length) (fun k1 : Nat => [(5, .one (.a (.lit (.int .i64 k1))))]) (fun k1 => [(27, .arr .Dev (x.devices.take k1))]) (fun k1 => x.devices.length - k1) 0 (fun k1 => rfl) (Nat.zero_le _) rfl ?_
    intro k1 hk1
    have hle1 := take_le_len x.devices k1
    refine W.seq ?_
    refine W.seq ?_
    refine W.reg X [] [] [1, 2, 3, 5, 33] [] rfl ⟨⟩ ?_
    refine W.cond rfl (fun hb1 => ?_) (fun hb1 => ?_)
    · try simp only [nb, inr_t, inr_f, isEmpty_t] at hb1
      have hs1 := take_snoc x.devices k1 (dfl .Dev) hb1
      refine W.skip ?_
      refine W.seq ?_
      refine W.block ?_
      refine W.drawK X [(45, 27)] [(43, ⟨true, [.agg (dec_Dev (x.devices.getD k1 (dfl .Dev)))]⟩)] [1, 2, 3, 5] [] 1279 (.ph 255 (.br 255 8 (.ph 0 (.br 0 9 (.ph 1024 (.br 1024 11 (.last 0) (.nil))) (.nil))) (.br 253 8 (.ph 2 (.br 2 9 (.ph 1024 (.br 1024 11 (.last 0) (.nil))) (.nil))) (.br 252 8 (.ph 3 (.br 3 9 (.ph 1024 (.br 1024 11 (.last 0) (.nil))) (.nil))) (.nil))))) 2 MO (by kernel_rfl) rfl (by kernel_rfl) (by (repeat' (first | with_reducible exact AllP.nil | with_reducible refine AllP.mk ?_ ?_ | with_reducible apply And.intro)) <;> skip; (iterate 1 (all_goals try (first | exact (c_spec_l30Copy (x.devices.getD k1 (dfl .Dev)) (lsz_mem hls.2.1 (getD_some x.devices _ k1 hb1)))))); all_goals (first | (intros; omega) | exact rfl | (simp only [byt, maxLen, lens]; omega))) ?_
      refine W.reg X [] [] [1, 2, 3, 5] [] rfl ⟨⟩ ?_
      refine ⟨k1 + 1, by omega, by omega, ?_⟩
      rw [wadd _ k1 rfl (by omega), hs1]
      try rfl
    · try simp only [nb, inr_t, inr_f, isEmpty_t] at hb1
      refine W.exit ?_
      refine W.seq ?_
      refine W.reg X [] [(49, ⟨true, [.agg (dec_Arc x.archive)]⟩)] [1, 2, 3] [] rfl (by (repeat' (first | with_reducible exact AllP.nil | with_reducible refine AllP.mk ?_ ?_ | with_reducible apply And.intro)) <;> skip; (iterate 1 (all_goals try (first | exact (c_spec_l28Copy x.archive hls.2.2.1))))) ?_
      refine W.seq ?_
      refine W.reg X [(54, 51)] [] [2, 3] [] rfl (by (repeat' (first | exact True.intro | apply And.intro)) <;> first | exact rfl | (simp only [byt, maxLen, lens]; omega)) ?_
      refine W.seq ?_
      refine W.reg X [] [] [2] [] rfl (by (repeat' (first | exact True.intro | apply And.intro))) ?_
      refine W.ret ?_
      exact Fin.ret rfl ⟨rfl, by rw [List.take_of_length_le hb0], by rw [List.take_of_length_le hb1], rfl, rfl, rfl, rfl, rfl, rfl, rfl, ⟨⟩⟩
end Go.Proofs.YthjedjndamejmaaGreat.G
namespace Go.Proofs.YthjedjndamejmaaGreat.G
set_option linter.all false
open Go.RowKit L D
set_option maxRecDepth 100000
theorem c_impl_ShareOf (s : Srv) (c : Int) (hz : s.received.length ≤ 1048576 ∧ ∀ r, r ∈ s.received → lsz List.length r.share.rows ≤ 1048576) : Sound ty Tryz.prog 90 [.agg (dec_Srv s), .a (.lit (.int .i64 c))] [.agg (dec_DB (shDB s.received c)), .a (.lit (.bool (shHas s.received c)))] := by
  refine Sound.of X Tryz.call90 Tryz.func90 rfl rfl (by decide) Tryz.ntmps90 (by simp) ?_
  intro zb
  refine W.boundA 0 3 rfl rfl (fun hl3 => ?_)
  refine W.seq ?_
  refine W.reg X [] [] [1, 2, 4] [] rfl ⟨⟩ ?_
  refine W.seq ?_
  refine W.seq ?_
  refine W.reg X [] [] [1, 4, 9, 10, 11] [] rfl ⟨⟩ ?_
  refine W.block ?_
  refine W.loopO (fun k => k ≤ s.received.length ∧ (s.received.take k).any (isC c) = false) (fun k : Nat => [(11, .one (.a (.lit (.int .i64 k))))]) (fun k => []) (fun k => s.received.length - k) 0 (fun k => rfl) ⟨Nat.zero_le _, rfl⟩ rfl ?_
  rintro k ⟨hk, hall⟩
  refine W.seq ?_
  refine W.reg X [] [] [1, 4, 9, 10, 11, 12] [] rfl ⟨⟩ ?_
  refine W.seq ?_
  refine W.cond rfl (fun hb0 => ?_) (fun hb0 => ?_)
  · try simp only [nb, inr_t, inr_f, isEmpty_t] at hb0
    refine W.skip ?_
    refine W.seq ?_
    refine W.block ?_
    refine W.seq ?_
    refine W.reg X [] [] [1, 4, 7, 9, 10, 11] [] rfl (by (repeat' (first | exact True.intro | apply And.intro)) <;> first | (intros; omega) | exact rfl | exact El_all _ (by decide) | exact ⟨rfl, El_all _ (by decide)⟩ | ((intro h1; first | (intro h2; first | (intro h3; refine And.intro ?_ ?_) | refine And.intro ?_ ?_) | refine And.intro ?_ ?_) <;> first | omega | ((try simp only [nb, inr_t, inr_f] at *); (try simp (disch := omega) only [i64w]); omega)) | ((try simp only [nb, inr_t, inr_f] at *); (simp (disch := omega) only [i64w]); omega) | (refine fun _ => ?_; dsimp only [hyps, imps]; omega) | (refine fun _ _ => ?_; dsimp only [hyps, imps]; omega) | exact (u8w _).1 | exact (u8w _).2 | exact (u8n _).1 | exact (u8n _).2 | (simp only [byt, maxLen, lens]; omega) | (intros; simp only [nb] at *; omega)) ?_
    refine W.seq ?_
    refine W.reg X [] [] [1, 4, 7, 9, 10, 11, 18] [] rfl ⟨⟩ ?_
    refine W.cond rfl (fun hb1 => ?_) (fun hb1 => ?_)
    · have hh := sh_hit hb0 hall hb1
      refine W.seq ?_
      refine W.reg X [] [(21, ⟨true, [.agg (dec_DB ((s.received.getD k (dfl .RShare)).share))]⟩)] [4, 5] [] rfl (by (repeat' (first | with_reducible exact AllP.nil | with_reducible refine AllP.mk ?_ ?_ | with_reducible apply And.intro)) <;> skip; (iterate 1 (all_goals try (first | exact (c_impl_copyDatabase ((s.received.getD k (dfl .RShare)).share) (hz.2 _ (getD_in _ hb0))) | exact fun _ => (c_impl_copyDatabase ((s.received.getD k (dfl .RShare)).share) (hz.2 _ (getD_in _ hb0))) | exact fun _ _ => (c_impl_copyDatabase ((s.received.getD k (dfl .RShare)).share) (hz.2 _ (getD_in _ hb0)))))); all_goals (first | (intros; omega) | exact rfl | exact El_all _ (by decide) | exact ⟨rfl, El_all _ (by decide)⟩ | ((intro h1; first | (intro h2; first | (intro h3; refine And.intro ?_ ?_) | refine And.intro ?_ ?_) | refine And.intro ?_ ?_) <;> first | omega | ((try simp only [nb, inr_t, inr_f] at *); (try simp (disch := omega) only [i64w]); omega)) | ((try simp only [nb, inr_t, inr_f] at *); (simp (disch := omega) only [i64w]); omega) | (refine fun _ => ?_; dsimp only [hyps, imps]; omega) | (refine fun _ _ => ?_; dsimp only [hyps, imps]; omega) | exact (u8w _).1 | exact (u8w _).2 | exact (u8n _).1 | exact (u8n _).2 | (simp only [byt, maxLen, lens]; omega) | (intros; simp only [nb] at *; omega))) ?_
      refine W.ret ?_
      exact Fin.ret rfl ⟨by rw [hh.2], by rw [hh.1], ⟨⟩⟩
    · skip
      refine W.skip ?_
      refine W.reg X [] [] [1, 4, 9, 10, 11] [] rfl ⟨⟩ ?_
      refine ⟨k + 1, ⟨by omega, any_no (dfl .RShare) hb0 hall hb1⟩, by omega, ?_⟩
      rw [wadd _ k rfl (by omega)]
      try rfl
  · try simp only [nb, inr_t, inr_f, isEmpty_t] at hb0
    refine W.exit ?_
    refine W.seq ?_
    refine W.reg X [] [] [4, 5] [] rfl (by (repeat' (first | exact True.intro | apply And.intro)) <;> first | (intros; omega) | exact rfl | exact El_all _ (by decide) | exact ⟨rfl, El_all _ (by decide)⟩ | ((intro h1; first | (intro h2; first | (intro h3; refine And.intro ?_ ?_) | refine And.intro ?_ ?_) | refine And.intro ?_ ?_) <;> first | omega | ((try simp only [nb, inr_t, inr_f] at *); (try simp (disch := omega) only [i64w]); omega)) | ((try simp only [nb, inr_t, inr_f] at *); (simp (disch := omega) only [i64w]); omega) | (refine fun _ => ?_; dsimp only [hyps, imps]; omega) | (refine fun _ _ => ?_; dsimp only [hyps, imps]; omega) | exact (u8w _).1 | exact (u8w _).2 | exact (u8n _).1 | exact (u8n _).2 | (simp only [byt, maxLen, lens]; omega) | (intros; simp only [nb] at *; omega)) ?_
    refine W.ret ?_
    exact Fin.ret rfl ⟨by rw [(sh_miss (by rw [← hall, List.take_of_length_le hb0])).2], by rw [(sh_miss (by rw [← hall, List.take_of_length_le hb0])).1], ⟨⟩⟩
theorem c_impl_ReceiveShare_1 (r : RShare) (c : Int) : SoundH ty Tryz.prog 92 [(1000, .box [.lit (.int .i64 c)])] [.agg (dec_RShare r), .a (.ptr 1000 0)] [(1000, .box [.lit (.int .i64 c)])] [.a (.lit (.bool (decide (r.client > c))))] := by
  refine SoundH.of X Tryz.call92 Tryz.func92 rfl rfl (by decide) Tryz.ntmps92 (by simp) rfl ?_
  intro zb
  refine W.seq ?_
  refine W.reg X [] [] [1, 2] [] rfl ⟨⟩ ?_
  refine W.seq ?_
  refine W.reg X [] [] [3] [] rfl (by (repeat' (first | exact True.intro | apply And.intro)) <;> first | (intros; omega) | exact rfl | exact El_all _ (by decide) | exact ⟨rfl, El_all _ (by decide)⟩ | ((intro h1; first | (intro h2; first | (intro h3; refine And.intro ?_ ?_) | refine And.intro ?_ ?_) | refine And.intro ?_ ?_) <;> first | omega | ((try simp only [nb, inr_t, inr_f] at *); (try simp (disch := omega) only [i64w]); omega)) | ((try simp only [nb, inr_t, inr_f] at *); (simp (disch := omega) only [i64w]); omega) | (refine fun _ => ?_; dsimp only [hyps, imps]; omega) | (refine fun _ _ => ?_; dsimp only [hyps, imps]; omega) | exact (u8w _).1 | exact (u8w _).2 | exact (u8n _).1 | exact (u8n _).2 | (simp only [byt, maxLen, lens]; omega) | (intros; simp only [nb] at *; omega)) ?_
  refine W.ret ?_
  exact FinH.ret rfl ⟨rfl, rfl, ⟨⟩⟩
theorem c_slices_IndexFunc_impl_ReceivedShare_impl_ReceivedShare (l : List RShare) (c : Int) (hl : ∀ r, r ∈ l → r.client < c) : SoundH ty Tryz.prog 91 [(1000, .box [.lit (.int .i64 c)])] [.a (.sl .RShare l), .a (.fnp 92 1000)] [(1000, .box [.lit (.int .i64 c)])] [.a (.lit (.int .i64 (-1)))] := by
  refine SoundH.of X Tryz.call91 Tryz.func91 rfl rfl (by decide) Tryz.ntmps91 (by simp) rfl ?_
  intro zb
  refine W.bound 0 rfl (fun hll => ?_)
  refine W.seq ?_
  refine W.reg X [] [] [0, 1] [] rfl ⟨⟩ ?_
  refine W.seq ?_
  refine W.seq ?_
  refine W.reg X [] [] [0, 1, 7, 8] [] rfl ⟨⟩ ?_
  refine W.block ?_
  refine W.loopO (fun k => k ≤ l.length) (fun k : Nat => [(8, .one (.a (.lit (.int .i64 k))))]) (fun k => []) (fun k => l.length - k) 0 (fun k => rfl) (Nat.zero_le _) rfl ?_
  intro k hk
  refine W.seq ?_
  refine W.reg X [] [] [0, 1, 7, 8, 9] [] rfl ⟨⟩ ?_
  refine W.seq ?_
  refine W.cond rfl (fun hb0 => ?_) (fun hb0 => ?_)
  · try simp only [nb, inr_t, inr_f, isEmpty_t] at hb0
    have hlt := hl _ (getD_in (dfl .RShare) hb0)
    refine W.skip ?_
    refine W.seq ?_
    refine W.block ?_
    refine W.seq ?_
    refine W.reg X [] [] [0, 1, 5, 7, 8] [] rfl ⟨⟩ ?_
    refine W.seq ?_
    refine W.reg X [] [(800016, ⟨true, [.a (.lit (.bool (decide ((l.getD k (dfl .RShare)).client > c))))]⟩), (700016, ⟨true, [.agg [.ptr 1000 1000], .agg [], .agg [.own 1000], .agg [.lit (.int .i64 c)]]⟩)] [0, 1, 5, 7, 8, 16] [] rfl (by (repeat' (first | with_reducible exact AllP.nil | with_reducible refine AllP.mk ?_ ?_ | with_reducible apply And.intro)) <;> skip; (iterate 1 (all_goals try (first | exact (c_impl_ReceiveShare_1 (l.getD k (dfl .RShare)) c) | exact fun _ => (c_impl_ReceiveShare_1 (l.getD k (dfl .RShare)) c) | exact fun _ _ => (c_impl_ReceiveShare_1 (l.getD k (dfl .RShare)) c)))); all_goals (first | (intros; omega) | exact rfl | exact El_all _ (by decide) | exact ⟨rfl, El_all _ (by decide)⟩ | ((intro h1; first | (intro h2; first | (intro h3; refine And.intro ?_ ?_) | refine And.intro ?_ ?_) | refine And.intro ?_ ?_) <;> first | omega | ((try simp only [nb, inr_t, inr_f] at *); (try simp (disch := omega) only [i64w]); omega)) | ((try simp only [nb, inr_t, inr_f] at *); (simp (disch := omega) only [i64w]); omega) | (refine fun _ => ?_; dsimp only [hyps, imps]; omega) | (refine fun _ _ => ?_; dsimp only [hyps, imps]; omega) | exact (u8w _).1 | exact (u8w _).2 | exact (u8n _).1 | exact (u8n _).2 | (simp only [byt, maxLen, lens]; omega) | (intros; simp only [nb] at *; omega))) ?_
    refine W.cond rfl (fun hb1 => ?_) (fun hb1 => ?_)
    · try simp only [nb, inr_t, inr_f, isEmpty_t] at hb1
      omega
    · try simp only [nb, inr_t, inr_f, isEmpty_t] at hb1
      refine W.skip ?_
      refine W.reg X [] [] [0, 1, 7, 8] [] rfl ⟨⟩ ?_
      refine ⟨k + 1, by omega, by omega, ?_⟩
      rw [wadd _ k rfl (by omega)]
      try rfl
  · try simp only [nb, inr_t, inr_f, isEmpty_t] at hb0
    refine W.exit ?_
    refine W.seq ?_
    refine W.reg X [] [] [4] [] rfl ⟨⟩ ?_
    refine W.ret ?_
    exact FinH.ret rfl ⟨rfl, rfl, ⟨⟩⟩
theorem c_slices_Insert_impl_ReceivedShare_impl_ReceivedShare (l : List RShare) (y : RShare) (hl : l.length ≤ 1048576) : SoundH ty Tryz.prog 93 [(5, .arr .RShare l), (6, .arr .RShare [y])] [.a (.own 5), .a (.lit (.int .i64 (l.length : Int))), .a (.own 6)] [(5, .arr .RShare (l ++ [y]))] [.a (.own 5)] := by
  refine SoundH.of X Tryz.call93 Tryz.func93 rfl rfl (by decide) Tryz.ntmps93 (by simp) rfl ?_
  intro zb
  refine W.seq ?_
  refine W.reg X [] [] [0, 1, 2] [] rfl ⟨⟩ ?_
  refine W.seq ?_
  refine W.reg X [] [] [0, 1, 2] [] rfl (by (repeat' (first | exact True.intro | apply And.intro)) <;> first | (intros; omega) | exact rfl | exact El_all _ (by decide) | exact ⟨rfl, El_all _ (by decide)⟩ | ((intro h1; first | (intro h2; first | (intro h3; refine And.intro ?_ ?_) | refine And.intro ?_ ?_) | refine And.intro ?_ ?_) <;> first | omega | ((try simp only [nb, inr_t, inr_f] at *); (try simp (disch := omega) only [i64w]); omega)) | ((try simp only [nb, inr_t, inr_f] at *); (simp (disch := omega) only [i64w]); omega) | (refine fun _ => ?_; dsimp only [hyps, imps]; omega) | (refine fun _ _ => ?_; dsimp only [hyps, imps]; omega) | exact (u8w _).1 | exact (u8w _).2 | exact (u8n _).1 | exact (u8n _).2 | (simp only [byt, maxLen, lens]; omega) | (intros; simp only [nb] at *; omega)) ?_
  refine W.seq ?_
  refine W.reg X [] [] [0, 1, 2, 7] [] rfl ⟨⟩ ?_
  refine W.seq ?_
  refine W.seq ?_
  refine W.reg X [] [] [0, 1, 2, 7, 16] [] rfl ⟨⟩ ?_
  refine W.cond rfl (fun hb0 => ?_) (fun hb0 => ?_)
  · try simp only [nb, inr_t, inr_f, isEmpty_t] at hb0
    simp at hb0
  · try simp only [nb, inr_t, inr_f, isEmpty_t] at hb0
    refine W.skip ?_
    refine W.seq ?_
    refine W.reg X [] [] [0, 1, 2, 7, 8] [] rfl ⟨⟩ ?_
    refine W.seq ?_
    refine W.seq ?_
    refine W.reg X [] [] [0, 1, 2, 7, 8, 22] [] rfl ⟨⟩ ?_
    refine W.cond rfl (fun hb1 => ?_) (fun hb1 => ?_)
    · try simp only [nb, inr_t, inr_f, isEmpty_t] at hb1
      refine W.seq ?_
      refine W.reg X [(25, 5)] [] [6] [] rfl (by (repeat' (first | exact True.intro | apply And.intro)) <;> first | (intros; omega) | exact rfl | exact El_all _ (by decide) | exact ⟨rfl, El_all _ (by decide)⟩ | ((intro h1; first | (intro h2; first | (intro h3; refine And.intro ?_ ?_) | refine And.intro ?_ ?_) | refine And.intro ?_ ?_) <;> first | omega | ((try simp only [nb, inr_t, inr_f] at *); (try simp (disch := omega) only [i64w]); omega)) | ((try simp only [nb, inr_t, inr_f] at *); (simp (disch := omega) only [i64w]); omega) | (refine fun _ => ?_; dsimp only [hyps, imps]; omega) | (refine fun _ _ => ?_; dsimp only [hyps, imps]; omega) | exact (u8w _).1 | exact (u8w _).2 | exact (u8n _).1 | exact (u8n _).2 | (simp only [byt, maxLen, lens]; omega) | (intros; simp only [nb] at *; omega)) ?_
      refine W.ret ?_
      exact FinH.ret rfl ⟨rfl, ⟨⟩⟩
    · try simp only [nb, inr_t, inr_f, isEmpty_t] at hb1
      simp at hb1
theorem c_impl_ReceiveShare (s : Srv) (c : Int) (d : DB) (hz : s.received.length ≤ 1048576 ∧ ∀ r, r ∈ s.received → lsz List.length r.share.rows ≤ 1048576) (hb : ∀ r, r ∈ s.received → r.client < c) (hd : lsz List.length d.rows ≤ 1048576) : Sound ty Tryz.prog 39 [.agg (dec_Srv s), .a (.lit (.int .i64 c)), .agg (dec_DB d)] [.agg (dec_Srv (rcv s c d)), .a (.lit (.bool (rcvOK s c d)))] := by
  refine Sound.of X Tryz.call39 Tryz.func39 rfl rfl (by decide) Tryz.ntmps39 (by simp) ?_
  intro zb
  have hsn := below_no (s := s) hb
  have hll := hz.1
  refine W.seq ?_
  refine W.reg X [(4, 904)] [] [3, 4, 5, 6] [] rfl ⟨⟩ ?_
  refine W.seq ?_
  refine W.reg X [] [(13, ⟨true, [.agg (dec_Srv s)]⟩)] [3, 4, 5, 6, 8] [] rfl (by (repeat' (first | with_reducible exact AllP.nil | with_reducible refine AllP.mk ?_ ?_ | with_reducible apply And.intro)) <;> skip; (iterate 1 (all_goals try (first | exact (c_impl_copyServer s hz) | exact fun _ => (c_impl_copyServer s hz) | exact fun _ _ => (c_impl_copyServer s hz)))); all_goals (first | (intros; omega) | exact rfl | exact El_all _ (by decide) | exact ⟨rfl, El_all _ (by decide)⟩ | ((intro h1; first | (intro h2; first | (intro h3; refine And.intro ?_ ?_) | refine And.intro ?_ ?_) | refine And.intro ?_ ?_) <;> first | omega | ((try simp only [nb, inr_t, inr_f] at *); (try simp (disch := omega) only [i64w]); omega)) | ((try simp only [nb, inr_t, inr_f] at *); (simp (disch := omega) only [i64w]); omega) | (refine fun _ => ?_; dsimp only [hyps, imps]; omega) | (refine fun _ _ => ?_; dsimp only [hyps, imps]; omega) | exact (u8w _).1 | exact (u8w _).2 | exact (u8n _).1 | exact (u8n _).2 | (simp only [byt, maxLen, lens]; omega) | (intros; simp only [nb] at *; omega))) ?_
  refine W.seq ?_
  refine W.seq ?_
  refine W.reg X [] [(17, ⟨true, [.agg (dec_DB (shDB s.received c)), .a (.lit (.bool (shHas s.received c)))]⟩)] [3, 4, 5, 6, 8, 10] [] rfl (by (repeat' (first | with_reducible exact AllP.nil | with_reducible refine AllP.mk ?_ ?_ | with_reducible apply And.intro)) <;> skip; (iterate 1 (all_goals try (first | exact (c_impl_ShareOf s c hz) | exact fun _ => (c_impl_ShareOf s c hz) | exact fun _ _ => (c_impl_ShareOf s c hz)))); all_goals (first | (intros; omega) | exact rfl | exact El_all _ (by decide) | exact ⟨rfl, El_all _ (by decide)⟩ | ((intro h1; first | (intro h2; first | (intro h3; refine And.intro ?_ ?_) | refine And.intro ?_ ?_) | refine And.intro ?_ ?_) <;> first | omega | ((try simp only [nb, inr_t, inr_f] at *); (try simp (disch := omega) only [i64w]); omega)) | ((try simp only [nb, inr_t, inr_f] at *); (simp (disch := omega) only [i64w]); omega) | (refine fun _ => ?_; dsimp only [hyps, imps]; omega) | (refine fun _ _ => ?_; dsimp only [hyps, imps]; omega) | exact (u8w _).1 | exact (u8w _).2 | exact (u8n _).1 | exact (u8n _).2 | (simp only [byt, maxLen, lens]; omega) | (intros; simp only [nb] at *; omega))) ?_
  refine W.seq ?_
  refine W.reg X [] [(23, ⟨false, [.a (.lit (.bool (okSrv s)))]⟩)] [3, 4, 5, 6, 8, 25] [] rfl (by (repeat' (first | with_reducible exact AllP.nil | with_reducible refine AllP.mk ?_ ?_ | with_reducible apply And.intro)) <;> skip; (iterate 1 (all_goals try (first | exact (c_impl_IsValidServer s) | exact fun _ => (c_impl_IsValidServer s) | exact fun _ _ => (c_impl_IsValidServer s)))); all_goals (first | (intros; omega) | exact rfl | exact El_all _ (by decide) | exact ⟨rfl, El_all _ (by decide)⟩ | ((intro h1; first | (intro h2; first | (intro h3; refine And.intro ?_ ?_) | refine And.intro ?_ ?_) | refine And.intro ?_ ?_) <;> first | omega | ((try simp only [nb, inr_t, inr_f] at *); (try simp (disch := omega) only [i64w]); omega)) | ((try simp only [nb, inr_t, inr_f] at *); (simp (disch := omega) only [i64w]); omega) | (refine fun _ => ?_; dsimp only [hyps, imps]; omega) | (refine fun _ _ => ?_; dsimp only [hyps, imps]; omega) | exact (u8w _).1 | exact (u8w _).2 | exact (u8n _).1 | exact (u8n _).2 | (simp only [byt, maxLen, lens]; omega) | (intros; simp only [nb] at *; omega))) ?_
  refine W.cond rfl (fun hb0 => ?_) (fun hb0 => ?_)
  · have hk : okSrv s = false := by rw [hsn] at hb0; simpa using hb0
    have hr : rcvOK s c d = false := by rw [rcvOK, hk]; rfl
    refine W.seq ?_
    refine W.reg X [] [] [6, 7] [] rfl (by (repeat' (first | exact True.intro | apply And.intro)) <;> first | (intros; omega) | exact rfl | exact El_all _ (by decide) | exact ⟨rfl, El_all _ (by decide)⟩ | ((intro h1; first | (intro h2; first | (intro h3; refine And.intro ?_ ?_) | refine And.intro ?_ ?_) | refine And.intro ?_ ?_) <;> first | omega | ((try simp only [nb, inr_t, inr_f] at *); (try simp (disch := omega) only [i64w]); omega)) | ((try simp only [nb, inr_t, inr_f] at *); (simp (disch := omega) only [i64w]); omega) | (refine fun _ => ?_; dsimp only [hyps, imps]; omega) | (refine fun _ _ => ?_; dsimp only [hyps, imps]; omega) | exact (u8w _).1 | exact (u8w _).2 | exact (u8n _).1 | exact (u8n _).2 | (simp only [byt, maxLen, lens]; omega) | (intros; simp only [nb] at *; omega)) ?_
    refine W.ret ?_
    exact Fin.ret rfl ⟨by rw [rcv_no hr], by rw [rcv_no hr], by rw [rcv_no hr], by rw [rcv_no hr], by rw [rcv_no hr], by rw [hr], ⟨⟩⟩
  · have hk : okSrv s = true := by rw [hsn] at hb0; simpa using hb0
    refine W.skip ?_
    refine W.seq ?_
    refine W.reg X [] [(800030, ⟨true, [.a (.lit (.int .i64 (-1)))]⟩), (700030, ⟨true, [.agg [.ptr 1000 904], .agg [], .agg [.own 1000], .agg [.lit (.int .i64 c)]]⟩)] [3, 4, 5, 6, 8, 11] [] rfl (by (repeat' (first | with_reducible exact AllP.nil | with_reducible refine AllP.mk ?_ ?_ | with_reducible apply And.intro)) <;> skip; (iterate 1 (all_goals try (first | exact (c_slices_IndexFunc_impl_ReceivedShare_impl_ReceivedShare s.received c hb) | exact fun _ => (c_slices_IndexFunc_impl_ReceivedShare_impl_ReceivedShare s.received c hb) | exact fun _ _ => (c_slices_IndexFunc_impl_ReceivedShare_impl_ReceivedShare s.received c hb)))); all_goals (first | (intros; omega) | exact rfl | exact El_all _ (by decide) | exact ⟨rfl, El_all _ (by decide)⟩ | ((intro h1; first | (intro h2; first | (intro h3; refine And.intro ?_ ?_) | refine And.intro ?_ ?_) | refine And.intro ?_ ?_) <;> first | omega | ((try simp only [nb, inr_t, inr_f] at *); (try simp (disch := omega) only [i64w]); omega)) | ((try simp only [nb, inr_t, inr_f] at *); (simp (disch := omega) only [i64w]); omega) | (refine fun _ => ?_; dsimp only [hyps, imps]; omega) | (refine fun _ _ => ?_; dsimp only [hyps, imps]; omega) | exact (u8w _).1 | exact (u8w _).2 | exact (u8n _).1 | exact (u8n _).2 | (simp only [byt, maxLen, lens]; omega) | (intros; simp only [nb] at *; omega))) ?_
    refine W.seq ?_
    refine W.seq ?_
    refine W.reg X [] [] [3, 4, 5, 6, 8, 11, 32] [] rfl ⟨⟩ ?_
    refine W.cond rfl (fun hb1 => ?_) (fun hb1 => ?_)
    · try simp only [nb, inr_t, inr_f, isEmpty_t] at hb1
      refine W.reg X [] [] [3, 4, 5, 6, 8, 11] [] rfl ⟨⟩ ?_
      refine W.seq ?_
      refine W.drawK X [] [(41, ⟨true, [.agg (dec_DB d)]⟩), (800044, ⟨true, [.a (.own 5)]⟩), (700044, ⟨true, [.agg [.ptr 5 16, .ptr 6 43], .agg [], .agg [.own 5], .a (.sl .RShare (s.received ++ [(⟨c, d⟩ : RShare)]))]⟩)] [3, 6, 8] [] 639 (.ph 127 (.br 127 7 (.ph 0 (.br 0 8 (.ph 512 (.br 512 10 (.last 0) (.nil))) (.nil))) (.br 123 7 (.ph 4 (.br 4 8 (.ph 512 (.br 512 10 (.last 0) (.nil))) (.nil))) (.br 125 7 (.ph 2 (.br 2 8 (.ph 512 (.br 512 10 (.last 0) (.nil))) (.nil))) (.br 121 7 (.ph 6 (.br 6 8 (.ph 512 (.br 512 10 (.last 0) (.nil))) (.nil))) (.br 124 7 (.ph 3 (.br 3 8 (.ph 512 (.br 512 10 (.last 0) (.nil))) (.nil))) (.br 120 7 (.ph 7 (.br 7 8 (.ph 512 (.br 512 10 (.last 0) (.nil))) (.nil))) (.nil)))))))) 5 MO (by kernel_rfl) rfl (by kernel_rfl) (by (repeat' (first | with_reducible exact AllP.nil | with_reducible refine AllP.mk ?_ ?_ | with_reducible apply And.intro)) <;> skip; (iterate 2 (all_goals try (first | exact (c_impl_copyDatabase d hd) | exact fun _ => (c_impl_copyDatabase d hd) | exact fun _ _ => (c_impl_copyDatabase d hd) | exact (c_slices_Insert_impl_ReceivedShare_impl_ReceivedShare s.received (⟨c, d⟩ : RShare) (by first | assumption | omega | (simp; done) | (simp; omega))) | exact fun _ => (c_slices_Insert_impl_ReceivedShare_impl_ReceivedShare s.received (⟨c, d⟩ : RShare) (by first | assumption | omega | (simp; done) | (simp; omega))) | exact fun _ _ => (c_slices_Insert_impl_ReceivedShare_impl_ReceivedShare s.received (⟨c, d⟩ : RShare) (by first | assumption | omega | (simp; done) | (simp; omega)))))); all_goals (first | (intros; omega) | exact rfl | exact El_all _ (by decide) | exact ⟨rfl, El_all _ (by decide)⟩ | ((intro h1; first | (intro h2; first | (intro h3; refine And.intro ?_ ?_) | refine And.intro ?_ ?_) | refine And.intro ?_ ?_) <;> first | omega | ((try simp only [nb, inr_t, inr_f] at *); (try simp (disch := omega) only [i64w]); omega)) | ((try simp only [nb, inr_t, inr_f] at *); (simp (disch := omega) only [i64w]); omega) | (refine fun _ => ?_; dsimp only [hyps, imps]; omega) | (refine fun _ _ => ?_; dsimp only [hyps, imps]; omega) | exact (u8w _).1 | exact (u8w _).2 | exact (u8n _).1 | exact (u8n _).2 | (simp only [byt, maxLen, lens]; omega) | (intros; simp only [nb] at *; omega))) ?_
      refine W.seq ?_
      refine W.seq ?_
      refine W.reg X [] [(47, ⟨false, [.a (.lit (.bool (okSrv (srvAdd s c d))))]⟩)] [3, 6, 8, 48] [] rfl (by (repeat' (first | with_reducible exact AllP.nil | with_reducible refine AllP.mk ?_ ?_ | with_reducible apply And.intro)) <;> skip; (iterate 1 (all_goals try (first | exact (c_impl_IsValidServer (srvAdd s c d)) | exact fun _ => (c_impl_IsValidServer (srvAdd s c d)) | exact fun _ _ => (c_impl_IsValidServer (srvAdd s c d))))); all_goals (first | (intros; omega) | exact rfl | exact El_all _ (by decide) | exact ⟨rfl, El_all _ (by decide)⟩ | ((intro h1; first | (intro h2; first | (intro h3; refine And.intro ?_ ?_) | refine And.intro ?_ ?_) | refine And.intro ?_ ?_) <;> first | omega | ((try simp only [nb, inr_t, inr_f] at *); (try simp (disch := omega) only [i64w]); omega)) | ((try simp only [nb, inr_t, inr_f] at *); (simp (disch := omega) only [i64w]); omega) | (refine fun _ => ?_; dsimp only [hyps, imps]; omega) | (refine fun _ _ => ?_; dsimp only [hyps, imps]; omega) | exact (u8w _).1 | exact (u8w _).2 | exact (u8n _).1 | exact (u8n _).2 | (simp only [byt, maxLen, lens]; omega) | (intros; simp only [nb] at *; omega))) ?_
      refine W.cond rfl (fun hb2 => ?_) (fun hb2 => ?_)
      · have hr : rcvOK s c d = false := by rw [rcvOK, hk]; simpa using hb2
        refine W.seq ?_
        refine W.reg X [] [(50, ⟨true, [.agg (dec_Srv s)]⟩)] [6, 7] [] rfl (by (repeat' (first | with_reducible exact AllP.nil | with_reducible refine AllP.mk ?_ ?_ | with_reducible apply And.intro)) <;> skip; (iterate 1 (all_goals try (first | exact (c_impl_copyServer s hz) | exact fun _ => (c_impl_copyServer s hz) | exact fun _ _ => (c_impl_copyServer s hz)))); all_goals (first | (intros; omega) | exact rfl | exact El_all _ (by decide) | exact ⟨rfl, El_all _ (by decide)⟩ | ((intro h1; first | (intro h2; first | (intro h3; refine And.intro ?_ ?_) | refine And.intro ?_ ?_) | refine And.intro ?_ ?_) <;> first | omega | ((try simp only [nb, inr_t, inr_f] at *); (try simp (disch := omega) only [i64w]); omega)) | ((try simp only [nb, inr_t, inr_f] at *); (simp (disch := omega) only [i64w]); omega) | (refine fun _ => ?_; dsimp only [hyps, imps]; omega) | (refine fun _ _ => ?_; dsimp only [hyps, imps]; omega) | exact (u8w _).1 | exact (u8w _).2 | exact (u8n _).1 | exact (u8n _).2 | (simp only [byt, maxLen, lens]; omega) | (intros; simp only [nb] at *; omega))) ?_
        refine W.ret ?_
        exact Fin.ret rfl ⟨by rw [rcv_no hr], by rw [rcv_no hr], by rw [rcv_no hr], by rw [rcv_no hr], by rw [rcv_no hr], by rw [hr], ⟨⟩⟩
      · have hr : rcvOK s c d = true := by rw [rcvOK, hk]; simpa using hb2
        refine W.skip ?_
        refine W.seq ?_
        refine W.reg X [] [] [6, 7] [] rfl (by (repeat' (first | exact True.intro | apply And.intro)) <;> first | (intros; omega) | exact rfl | exact El_all _ (by decide) | exact ⟨rfl, El_all _ (by decide)⟩ | ((intro h1; first | (intro h2; first | (intro h3; refine And.intro ?_ ?_) | refine And.intro ?_ ?_) | refine And.intro ?_ ?_) <;> first | omega | ((try simp only [nb, inr_t, inr_f] at *); (try simp (disch := omega) only [i64w]); omega)) | ((try simp only [nb, inr_t, inr_f] at *); (simp (disch := omega) only [i64w]); omega) | (refine fun _ => ?_; dsimp only [hyps, imps]; omega) | (refine fun _ _ => ?_; dsimp only [hyps, imps]; omega) | exact (u8w _).1 | exact (u8w _).2 | exact (u8n _).1 | exact (u8n _).2 | (simp only [byt, maxLen, lens]; omega) | (intros; simp only [nb] at *; omega)) ?_
        refine W.ret ?_
        exact Fin.ret rfl ⟨by rw [rcv_yes hr]; rfl, by rw [rcv_yes hr]; rfl, by rw [rcv_yes hr]; rfl, by rw [rcv_yes hr]; rfl, by rw [rcv_yes hr]; rfl, by rw [hr], ⟨⟩⟩
    · try simp only [nb, inr_t, inr_f, isEmpty_t] at hb1
      omega
theorem c_spec_ReceiveShare (s : Srv) (c : Int) (d : DB) (hz : s.received.length ≤ 1048576 ∧ ∀ r, r ∈ s.received → lsz List.length r.share.rows ≤ 1048576) (hb : ∀ r, r ∈ s.received → r.client < c) (hd : lsz List.length d.rows ≤ 1048576) : Sound ty Tryz.prog 29 [.agg (dec_Srv s), .a (.lit (.int .i64 c)), .agg (dec_DB d)] [.agg (dec_Srv (rcv s c d)), .a (.lit (.bool (rcvOK s c d)))] := by
  refine Sound.of X Tryz.call29 Tryz.func29 rfl rfl (by decide) Tryz.ntmps29 (by simp) ?_
  intro zb
  have hll := hz.1
  refine W.seq ?_
  refine W.reg X [] [] [1, 3, 5, 6] [] rfl ⟨⟩ ?_
  refine W.seq ?_
  refine W.reg X [] [(11, ⟨true, [.agg (dec_Srv s)]⟩)] [1, 3, 5, 6, 8] [] rfl (by (repeat' (first | with_reducible exact AllP.nil | with_reducible refine AllP.mk ?_ ?_ | with_reducible apply And.intro)) <;> skip; (iterate 1 (all_goals try (first | exact (c_spec_l25Copy s hz) | exact fun _ => (c_spec_l25Copy s hz) | exact fun _ _ => (c_spec_l25Copy s hz)))); all_goals (first | (intros; omega) | exact rfl | exact El_all _ (by decide) | exact ⟨rfl, El_all _ (by decide)⟩ | ((intro h1; first | (intro h2; first | (intro h3; refine And.intro ?_ ?_) | refine And.intro ?_ ?_) | refine And.intro ?_ ?_) <;> first | omega | ((try simp only [nb, inr_t, inr_f] at *); (try simp (disch := omega) only [i64w]); omega)) | ((try simp only [nb, inr_t, inr_f] at *); (simp (disch := omega) only [i64w]); omega) | (refine fun _ => ?_; dsimp only [hyps, imps]; omega) | (refine fun _ _ => ?_; dsimp only [hyps, imps]; omega) | exact (u8w _).1 | exact (u8w _).2 | exact (u8n _).1 | exact (u8n _).2 | (simp only [byt, maxLen, lens]; omega) | (intros; simp only [nb] at *; omega))) ?_
  refine W.seq ?_
  refine W.reg X [] [] [1, 3, 5, 6, 8, 9] [] rfl ⟨⟩ ?_
  refine W.seq ?_
  refine W.block ?_
  refine W.loopO (fun k => k ≤ s.received.length) (fun k : Nat => [(9, .one (.a (.lit (.int .i64 k))))]) (fun k => []) (fun k => s.received.length - k) 0 (fun k => rfl) (Nat.zero_le _) rfl ?_
  intro k hk
  refine W.seq ?_
  refine W.seq ?_
  refine W.reg X [] [] [1, 3, 5, 6, 8, 9, 26] [] rfl (by refine ⟨fun hzz => ?_, fun hzz => ?_, ⟨⟩⟩ <;> (have hz2 : decide ((k : Int) < (s.received.length : Int)) = true := hzz; rw [decide_eq_true_eq] at hz2; dsimp only [hyps, imps]; omega)) ?_
  refine W.cond rfl (fun hb0 => ?_) (fun hb0 => ?_)
  · have hkl : k < s.received.length := by simp only [nb] at hb0; omega
    have hlt := hb _ (getD_in (dfl .RShare) hkl)
    refine W.skip ?_
    refine W.block ?_
    refine W.reg X [] [] [1, 3, 5, 6, 8, 9] [] rfl ⟨⟩ ?_
    refine ⟨k + 1, by omega, by omega, ?_⟩
    rw [wadd _ k rfl (by omega)]
    try rfl
  · have hkl : k = s.received.length := spec_at hb hk hb0
    subst hkl
    refine W.viewB 8 3 rfl ?_
    refine W.exit ?_
    refine W.seq ?_
    refine W.drawK X [(34, 29), (40, 29), (45, 29)] [(37, ⟨true, [.agg (dec_DB d)]⟩), (600044, ⟨true, []⟩)] [3, 6, 8] [] 193503 (.ph 61663 (.br 61663 5 (.ph 768 (.br 768 10 (.ph 0 (.br 0 11 (.ph 0 (.br 0 16 (.ph 131072 (.br 131072 18 (.last 0) (.nil))) (.nil))) (.nil))) (.nil))) (.br 28895 5 (.ph 33536 (.br 33536 10 (.ph 0 (.br 0 11 (.ph 0 (.br 0 16 (.ph 131072 (.br 131072 18 (.last 0) (.nil))) (.nil))) (.nil))) (.br 768 10 (.ph 32768 (.br 32768 11 (.ph 0 (.br 0 16 (.ph 131072 (.br 131072 18 (.last 0) (.nil))) (.nil))) (.br 0 11 (.ph 32768 (.br 32768 16 (.ph 131072 (.br 131072 18 (.last 0) (.nil))) (.nil))) (.nil)))) (.nil)))) (.br 12511 5 (.ph 49920 (.br 49920 10 (.ph 0 (.br 0 11 (.ph 0 (.br 0 16 (.ph 131072 (.br 131072 18 (.last 0) (.nil))) (.nil))) (.nil))) (.br 17152 10 (.ph 32768 (.br 32768 11 (.ph 0 (.br 0 16 (.ph 131072 (.br 131072 18 (.last 0) (.nil))) (.nil))) (.br 0 11 (.ph 32768 (.br 32768 16 (.ph 131072 (.br 131072 18 (.last 0) (.nil))) (.nil))) (.nil)))) (.br 768 10 (.ph 49152 (.br 49152 11 (.ph 0 (.br 0 16 (.ph 131072 (.br 131072 18 (.last 0) (.nil))) (.nil))) (.br 16384 11 (.ph 32768 (.br 32768 16 (.ph 131072 (.br 131072 18 (.last 0) (.nil))) (.nil))) (.br 0 11 (.ph 49152 (.br 49152 16 (.ph 131072 (.br 131072 18 (.last 0) (.nil))) (.nil))) (.nil))))) (.nil))))) (.br 20703 5 (.ph 41728 (.br 41728 10 (.ph 0 (.br 0 11 (.ph 0 (.br 0 16 (.ph 131072 (.br 131072 18 (.last 0) (.nil))) (.nil))) (.nil))) (.br 8960 10 (.ph 32768 (.br 32768 11 (.ph 0 (.br 0 16 (.ph 131072 (.br 131072 18 (.last 0) (.nil))) (.nil))) (.br 0 11 (.ph 32768 (.br 32768 16 (.ph 131072 (.br 131072 18 (.last 0) (.nil))) (.nil))) (.nil)))) (.br 768 10 (.ph 40960 (.br 40960 11 (.ph 0 (.br 0 16 (.ph 131072 (.br 131072 18 (.last 0) (.nil))) (.nil))) (.br 8192 11 (.ph 32768 (.br 32768 16 (.ph 131072 (.br 131072 18 (.last 0) (.nil))) (.nil))) (.br 0 11 (.ph 40960 (.br 40960 16 (.ph 131072 (.br 131072 18 (.last 0) (.nil))) (.nil))) (.nil))))) (.nil))))) (.br 4319 5 (.ph 58112 (.br 58112 10 (.ph 0 (.br 0 11 (.ph 0 (.br 0 16 (.ph 131072 (.br 131072 18 (.last 0) (.nil))) (.nil))) (.nil))) (.br 25344 10 (.ph 32768 (.br 32768 11 (.ph 0 (.br 0 16 (.ph 131072 (.br 131072 18 (.last 0) (.nil))) (.nil))) (.br 0 11 (.ph 32768 (.br 32768 16 (.ph 131072 (.br 131072 18 (.last 0) (.nil))) (.nil))) (.nil)))) (.br 8960 10 (.ph 49152 (.br 49152 11 (.ph 0 (.br 0 16 (.ph 131072 (.br 131072 18 (.last 0) (.nil))) (.nil))) (.br 16384 11 (.ph 32768 (.br 32768 16 (.ph 131072 (.br 131072 18 (.last 0) (.nil))) (.nil))) (.br 0 11 (.ph 49152 (.br 49152 16 (.ph 131072 (.br 131072 18 (.last 0) (.nil))) (.nil))) (.nil))))) (.br 17152 10 (.ph 40960 (.br 40960 11 (.ph 0 (.br 0 16 (.ph 131072 (.br 131072 18 (.last 0) (.nil))) (.nil))) (.br 8192 11 (.ph 32768 (.br 32768 16 (.ph 131072 (.br 131072 18 (.last 0) (.nil))) (.nil))) (.br 0 11 (.ph 40960 (.br 40960 16 (.ph 131072 (.br 131072 18 (.last 0) (.nil))) (.nil))) (.nil))))) (.br 768 10 (.ph 57344 (.br 57344 11 (.ph 0 (.br 0 16 (.ph 131072 (.br 131072 18 (.last 0) (.nil))) (.nil))) (.br 24576 11 (.ph 32768 (.br 32768 16 (.ph 131072 (.br 131072 18 (.last 0) (.nil))) (.nil))) (.br 8192 11 (.ph 49152 (.br 49152 16 (.ph 131072 (.br 131072 18 (.last 0) (.nil))) (.nil))) (.br 16384 11 (.ph 40960 (.br 40960 16 (.ph 131072 (.br 131072 18 (.last 0) (.nil))) (.nil))) (.br 0 11 (.ph 57344 (.br 57344 16 (.ph 131072 (.br 131072 18 (.last 0) (.nil))) (.nil))) (.nil))))))) (.nil))))))) (.br 16607 5 (.ph 45824 (.br 45824 10 (.ph 0 (.br 0 11 (.ph 0 (.br 0 16 (.ph 131072 (.br 131072 18 (.last 0) (.nil))) (.nil))) (.nil))) (.br 13056 10 (.ph 32768 (.br 32768 11 (.ph 0 (.br 0 16 (.ph 131072 (.br 131072 18 (.last 0) (.nil))) (.nil))) (.br 0 11 (.ph 32768 (.br 32768 16 (.ph 131072 (.br 131072 18 (.last 0) (.nil))) (.nil))) (.nil)))) (.br 4864 10 (.ph 40960 (.br 40960 11 (.ph 0 (.br 0 16 (.ph 131072 (.br 131072 18 (.last 0) (.nil))) (.nil))) (.br 8192 11 (.ph 32768 (.br 32768 16 (.ph 131072 (.br 131072 18 (.last 0) (.nil))) (.nil))) (.br 0 11 (.ph 40960 (.br 40960 16 (.ph 131072 (.br 131072 18 (.last 0) (.nil))) (.nil))) (.nil))))) (.br 768 10 (.ph 45056 (.br 45056 11 (.ph 0 (.br 0 16 (.ph 131072 (.br 131072 18 (.last 0) (.nil))) (.nil))) (.br 12288 11 (.ph 32768 (.br 32768 16 (.ph 131072 (.br 131072 18 (.last 0) (.nil))) (.nil))) (.br 4096 11 (.ph 40960 (.br 40960 16 (.ph 131072 (.br 131072 18 (.last 0) (.nil))) (.nil))) (.br 0 11 (.ph 45056 (.br 45056 16 (.ph 131072 (.br 131072 18 (.last 0) (.nil))) (.nil))) (.nil)))))) (.nil)))))) (.br 223 5 (.ph 62208 (.br 62208 10 (.ph 0 (.br 0 11 (.ph 0 (.br 0 16 (.ph 131072 (.br 131072 18 (.last 0) (.nil))) (.nil))) (.nil))) (.br 29440 10 (.ph 32768 (.br 32768 11 (.ph 0 (.br 0 16 (.ph 131072 (.br 131072 18 (.last 0) (.nil))) (.nil))) (.br 0 11 (.ph 32768 (.br 32768 16 (.ph 131072 (.br 131072 18 (.last 0) (.nil))) (.nil))) (.nil)))) (.br 13056 10 (.ph 49152 (.br 49152 11 (.ph 0 (.br 0 16 (.ph 131072 (.br 131072 18 (.last 0) (.nil))) (.nil))) (.br 16384 11 (.ph 32768 (.br 32768 16 (.ph 131072 (.br 131072 18 (.last 0) (.nil))) (.nil))) (.br 0 11 (.ph 49152 (.br 49152 16 (.ph 131072 (.br 131072 18 (.last 0) (.nil))) (.nil))) (.nil))))) (.br 21248 10 (.ph 40960 (.br 40960 11 (.ph 0 (.br 0 16 (.ph 131072 (.br 131072 18 (.last 0) (.nil))) (.nil))) (.br 8192 11 (.ph 32768 (.br 32768 16 (.ph 131072 (.br 131072 18 (.last 0) (.nil))) (.nil))) (.br 0 11 (.ph 40960 (.br 40960 16 (.ph 131072 (.br 131072 18 (.last 0) (.nil))) (.nil))) (.nil))))) (.br 4864 10 (.ph 57344 (.br 57344 11 (.ph 0 (.br 0 16 (.ph 131072 (.br 131072 18 (.last 0) (.nil))) (.nil))) (.br 24576 11 (.ph 32768 (.br 32768 16 (.ph 131072 (.br 131072 18 (.last 0) (.nil))) (.nil))) (.br 8192 11 (.ph 49152 (.br 49152 16 (.ph 131072 (.br 131072 18 (.last 0) (.nil))) (.nil))) (.br 16384 11 (.ph 40960 (.br 40960 16 (.ph 131072 (.br 131072 18 (.last 0) (.nil))) (.nil))) (.br 0 11 (.ph 57344 (.br 57344 16 (.ph 131072 (.br 131072 18 (.last 0) (.nil))) (.nil))) (.nil))))))) (.br 17152 10 (.ph 45056 (.br 45056 11 (.ph 0 (.br 0 16 (.ph 131072 (.br 131072 18 (.last 0) (.nil))) (.nil))) (.br 12288 11 (.ph 32768 (.br 32768 16 (.ph 131072 (.br 131072 18 (.last 0) (.nil))) (.nil))) (.br 4096 11 (.ph 40960 (.br 40960 16 (.ph 131072 (.br 131072 18 (.last 0) (.nil))) (.nil))) (.br 0 11 (.ph 45056 (.br 45056 16 (.ph 131072 (.br 131072 18 (.last 0) (.nil))) (.nil))) (.nil)))))) (.br 768 10 (.ph 61440 (.br 61440 11 (.ph 0 (.br 0 16 (.ph 131072 (.br 131072 18 (.last 0) (.nil))) (.nil))) (.br 28672 11 (.ph 32768 (.br 32768 16 (.ph 131072 (.br 131072 18 (.last 0) (.nil))) (.nil))) (.br 12288 11 (.ph 49152 (.br 49152 16 (.ph 131072 (.br 131072 18 (.last 0) (.nil))) (.nil))) (.br 20480 11 (.ph 40960 (.br 40960 16 (.ph 131072 (.br 131072 18 (.last 0) (.nil))) (.nil))) (.br 4096 11 (.ph 57344 (.br 57344 16 (.ph 131072 (.br 131072 18 (.last 0) (.nil))) (.nil))) (.br 16384 11 (.ph 45056 (.br 45056 16 (.ph 131072 (.br 131072 18 (.last 0) (.nil))) (.nil))) (.br 0 11 (.ph 61440 (.br 61440 16 (.ph 131072 (.br 131072 18 (.last 0) (.nil))) (.nil))) (.nil))))))))) (.nil))))))))) (.br 61535 5 (.ph 896 (.br 896 10 (.ph 0 (.br 0 11 (.ph 0 (.br 0 16 (.ph 131072 (.br 131072 18 (.last 0) (.nil))) (.nil))) (.nil))) (.nil))) (.br 28767 5 (.ph 33664 (.br 33664 10 (.ph 0 (.br 0 11 (.ph 0 (.br 0 16 (.ph 131072 (.br 131072 18 (.last 0) (.nil))) (.nil))) (.nil))) (.br 896 10 (.ph 32768 (.br 32768 11 (.ph 0 (.br 0 16 (.ph 131072 (.br 131072 18 (.last 0) (.nil))) (.nil))) (.br 0 11 (.ph 32768 (.br 32768 16 (.ph 131072 (.br 131072 18 (.last 0) (.nil))) (.nil))) (.nil)))) (.nil)))) (.br 12383 5 (.ph 50048 (.br 50048 10 (.ph 0 (.br 0 11 (.ph 0 (.br 0 16 (.ph 131072 (.br 131072 18 (.last 0) (.nil))) (.nil))) (.nil))) (.br 17280 10 (.ph 32768 (.br 32768 11 (.ph 0 (.br 0 16 (.ph 131072 (.br 131072 18 (.last 0) (.nil))) (.nil))) (.br 0 11 (.ph 32768 (.br 32768 16 (.ph 131072 (.br 131072 18 (.last 0) (.nil))) (.nil))) (.nil)))) (.br 896 10 (.ph 49152 (.br 49152 11 (.ph 0 (.br 0 16 (.ph 131072 (.br 131072 18 (.last 0) (.nil))) (.nil))) (.br 16384 11 (.ph 32768 (.br 32768 16 (.ph 131072 (.br 131072 18 (.last 0) (.nil))) (.nil))) (.br 0 11 (.ph 49152 (.br 49152 16 (.ph 131072 (.br 131072 18 (.last 0) (.nil))) (.nil))) (.nil))))) (.nil))))) (.br 20575 5 (.ph 41856 (.br 41856 10 (.ph 0 (.br 0 11 (.ph 0 (.br 0 16 (.ph 131072 (.br 131072 18 (.last 0) (.nil))) (.nil))) (.nil))) (.br 9088 10 (.ph 32768 (.br 32768 11 (.ph 0 (.br 0 16 (.ph 131072 (.br 131072 18 (.last 0) (.nil))) (.nil))) (.br 0 11 (.ph 32768 (.br 32768 16 (.ph 131072 (.br 131072 18 (.last 0) (.nil))) (.nil))) (.nil)))) (.br 896 10 (.ph 40960 (.br 40960 11 (.ph 0 (.br 0 16 (.ph 131072 (.br 131072 18 (.last 0) (.nil))) (.nil))) (.br 8192 11 (.ph 32768 (.br 32768 16 (.ph 131072 (.br 131072 18 (.last 0) (.nil))) (.nil))) (.br 0 11 (.ph 40960 (.br 40960 16 (.ph 131072 (.br 131072 18 (.last 0) (.nil))) (.nil))) (.nil))))) (.nil))))) (.br 4191 5 (.ph 58240 (.br 58240 10 (.ph 0 (.br 0 11 (.ph 0 (.br 0 16 (.ph 131072 (.br 131072 18 (.last 0) (.nil))) (.nil))) (.nil))) (.br 25472 10 (.ph 32768 (.br 32768 11 (.ph 0 (.br 0 16 (.ph 131072 (.br 131072 18 (.last 0) (.nil))) (.nil))) (.br 0 11 (.ph 32768 (.br 32768 16 (.ph 131072 (.br 131072 18 (.last 0) (.nil))) (.nil))) (.nil)))) (.br 9088 10 (.ph 49152 (.br 49152 11 (.ph 0 (.br 0 16 (.ph 131072 (.br 131072 18 (.last 0) (.nil))) (.nil))) (.br 16384 11 (.ph 32768 (.br 32768 16 (.ph 131072 (.br 131072 18 (.last 0) (.nil))) (.nil))) (.br 0 11 (.ph 49152 (.br 49152 16 (.ph 131072 (.br 131072 18 (.last 0) (.nil))) (.nil))) (.nil))))) (.br 17280 10 (.ph 40960 (.br 40960 11 (.ph 0 (.br 0 16 (.ph 131072 (.br 131072 18 (.last 0) (.nil))) (.nil))) (.br 8192 11 (.ph 32768 (.br 32768 16 (.ph 131072 (.br 131072 18 (.last 0) (.nil))) (.nil))) (.br 0 11 (.ph 40960 (.br 40960 16 (.ph 131072 (.br 131072 18 (.last 0) (.nil))) (.nil))) (.nil))))) (.br 896 10 (.ph 57344 (.br 57344 11 (.ph 0 (.br 0 16 (.ph 131072 (.br 131072 18 (.last 0) (.nil))) (.nil))) (.br 24576 11 (.ph 32768 (.br 32768 16 (.ph 131072 (.br 131072 18 (.last 0) (.nil))) (.nil))) (.br 8192 11 (.ph 49152 (.br 49152 16 (.ph 131072 (.br 131072 18 (.last 0) (.nil))) (.nil))) (.br 16384 11 (.ph 40960 (.br 40960 16 (.ph 131072 (.br 131072 18 (.last 0) (.nil))) (.nil))) (.br 0 11 (.ph 57344 (.br 57344 16 (.ph 131072 (.br 131072 18 (.last 0) (.nil))) (.nil))) (.nil))))))) (.nil))))))) (.br 16479 5 (.ph 45952 (.br 45952 10 (.ph 0 (.br 0 11 (.ph 0 (.br 0 16 (.ph 131072 (.br 131072 18 (.last 0) (.nil))) (.nil))) (.nil))) (.br 13184 10 (.ph 32768 (.br 32768 11 (.ph 0 (.br 0 16 (.ph 131072 (.br 131072 18 (.last 0) (.nil))) (.nil))) (.br 0 11 (.ph 32768 (.br 32768 16 (.ph 131072 (.br 131072 18 (.last 0) (.nil))) (.nil))) (.nil)))) (.br 4992 10 (.ph 40960 (.br 40960 11 (.ph 0 (.br 0 16 (.ph 131072 (.br 131072 18 (.last 0) (.nil))) (.nil))) (.br 8192 11 (.ph 32768 (.br 32768 16 (.ph 131072 (.br 131072 18 (.last 0) (.nil))) (.nil))) (.br 0 11 (.ph 40960 (.br 40960 16 (.ph 131072 (.br 131072 18 (.last 0) (.nil))) (.nil))) (.nil))))) (.br 896 10 (.ph 45056 (.br 45056 11 (.ph 0 (.br 0 16 (.ph 131072 (.br 131072 18 (.last 0) (.nil))) (.nil))) (.br 12288 11 (.ph 32768 (.br 32768 16 (.ph 131072 (.br 131072 18 (.last 0) (.nil))) (.nil))) (.br 4096 11 (.ph 40960 (.br 40960 16 (.ph 131072 (.br 131072 18 (.last 0) (.nil))) (.nil))) (.br 0 11 (.ph 45056 (.br 45056 16 (.ph 131072 (.br 131072 18 (.last 0) (.nil))) (.nil))) (.nil)))))) (.nil)))))) (.br 95 5 (.ph 62336 (.br 62336 10 (.ph 0 (.br 0 11 (.ph 0 (.br 0 16 (.ph 131072 (.br 131072 18 (.last 0) (.nil))) (.nil))) (.nil))) (.br 29568 10 (.ph 32768 (.br 32768 11 (.ph 0 (.br 0 16 (.ph 131072 (.br 131072 18 (.last 0) (.nil))) (.nil))) (.br 0 11 (.ph 32768 (.br 32768 16 (.ph 131072 (.br 131072 18 (.last 0) (.nil))) (.nil))) (.nil)))) (.br 13184 10 (.ph 49152 (.br 49152 11 (.ph 0 (.br 0 16 (.ph 131072 (.br 131072 18 (.last 0) (.nil))) (.nil))) (.br 16384 11 (.ph 32768 (.br 32768 16 (.ph 131072 (.br 131072 18 (.last 0) (.nil))) (.nil))) (.br 0 11 (.ph 49152 (.br 49152 16 (.ph 131072 (.br 131072 18 (.last 0) (.nil))) (.nil))) (.nil))))) (.br 21376 10 (.ph 40960 (.br 40960 11 (.ph 0 (.br 0 16 (.ph 131072 (.br 131072 18 (.last 0) (.nil))) (.nil))) (.br 8192 11 (.ph 32768 (.br 32768 16 (.ph 131072 (.br 131072 18 (.last 0) (.nil))) (.nil))) (.br 0 11 (.ph 40960 (.br 40960 16 (.ph 131072 (.br 131072 18 (.last 0) (.nil))) (.nil))) (.nil))))) (.br 4992 10 (.ph 57344 (.br 57344 11 (.ph 0 (.br 0 16 (.ph 131072 (.br 131072 18 (.last 0) (.nil))) (.nil))) (.br 24576 11 (.ph 32768 (.br 32768 16 (.ph 131072 (.br 131072 18 (.last 0) (.nil))) (.nil))) (.br 8192 11 (.ph 49152 (.br 49152 16 (.ph 131072 (.br 131072 18 (.last 0) (.nil))) (.nil))) (.br 16384 11 (.ph 40960 (.br 40960 16 (.ph 131072 (.br 131072 18 (.last 0) (.nil))) (.nil))) (.br 0 11 (.ph 57344 (.br 57344 16 (.ph 131072 (.br 131072 18 (.last 0) (.nil))) (.nil))) (.nil))))))) (.br 17280 10 (.ph 45056 (.br 45056 11 (.ph 0 (.br 0 16 (.ph 131072 (.br 131072 18 (.last 0) (.nil))) (.nil))) (.br 12288 11 (.ph 32768 (.br 32768 16 (.ph 131072 (.br 131072 18 (.last 0) (.nil))) (.nil))) (.br 4096 11 (.ph 40960 (.br 40960 16 (.ph 131072 (.br 131072 18 (.last 0) (.nil))) (.nil))) (.br 0 11 (.ph 45056 (.br 45056 16 (.ph 131072 (.br 131072 18 (.last 0) (.nil))) (.nil))) (.nil)))))) (.br 896 10 (.ph 61440 (.br 61440 11 (.ph 0 (.br 0 16 (.ph 131072 (.br 131072 18 (.last 0) (.nil))) (.nil))) (.br 28672 11 (.ph 32768 (.br 32768 16 (.ph 131072 (.br 131072 18 (.last 0) (.nil))) (.nil))) (.br 12288 11 (.ph 49152 (.br 49152 16 (.ph 131072 (.br 131072 18 (.last 0) (.nil))) (.nil))) (.br 20480 11 (.ph 40960 (.br 40960 16 (.ph 131072 (.br 131072 18 (.last 0) (.nil))) (.nil))) (.br 4096 11 (.ph 57344 (.br 57344 16 (.ph 131072 (.br 131072 18 (.last 0) (.nil))) (.nil))) (.br 16384 11 (.ph 45056 (.br 45056 16 (.ph 131072 (.br 131072 18 (.last 0) (.nil))) (.nil))) (.br 0 11 (.ph 61440 (.br 61440 16 (.ph 131072 (.br 131072 18 (.last 0) (.nil))) (.nil))) (.nil))))))))) (.nil))))))))) (.br 61599 5 (.ph 832 (.br 832 10 (.ph 0 (.br 0 11 (.ph 0 (.br 0 16 (.ph 131072 (.br 131072 18 (.last 0) (.nil))) (.nil))) (.nil))) (.nil))) (.br 28831 5 (.ph 33600 (.br 33600 10 (.ph 0 (.br 0 11 (.ph 0 (.br 0 16 (.ph 131072 (.br 131072 18 (.last 0) (.nil))) (.nil))) (.nil))) (.br 832 10 (.ph 32768 (.br 32768 11 (.ph 0 (.br 0 16 (.ph 131072 (.br 131072 18 (.last 0) (.nil))) (.nil))) (.br 0 11 (.ph 32768 (.br 32768 16 (.ph 131072 (.br 131072 18 (.last 0) (.nil))) (.nil))) (.nil)))) (.nil)))) (.br 12447 5 (.ph 49984 (.br 49984 10 (.ph 0 (.br 0 11 (.ph 0 (.br 0 16 (.ph 131072 (.br 131072 18 (.last 0) (.nil))) (.nil))) (.nil))) (.br 17216 10 (.ph 32768 (.br 32768 11 (.ph 0 (.br 0 16 (.ph 131072 (.br 131072 18 (.last 0) (.nil))) (.nil))) (.br 0 11 (.ph 32768 (.br 32768 16 (.ph 131072 (.br 131072 18 (.last 0) (.nil))) (.nil))) (.nil)))) (.br 832 10 (.ph 49152 (.br 49152 11 (.ph 0 (.br 0 16 (.ph 131072 (.br 131072 18 (.last 0) (.nil))) (.nil))) (.br 16384 11 (.ph 32768 (.br 32768 16 (.ph 131072 (.br 131072 18 (.last 0) (.nil))) (.nil))) (.br 0 11 (.ph 49152 (.br 49152 16 (.ph 131072 (.br 131072 18 (.last 0) (.nil))) (.nil))) (.nil))))) (.nil))))) (.br 20639 5 (.ph 41792 (.br 41792 10 (.ph 0 (.br 0 11 (.ph 0 (.br 0 16 (.ph 131072 (.br 131072 18 (.last 0) (.nil))) (.nil))) (.nil))) (.br 9024 10 (.ph 32768 (.br 32768 11 (.ph 0 (.br 0 16 (.ph 131072 (.br 131072 18 (.last 0) (.nil))) (.nil))) (.br 0 11 (.ph 32768 (.br 32768 16 (.ph 131072 (.br 131072 18 (.last 0) (.nil))) (.nil))) (.nil)))) (.br 832 10 (.ph 40960 (.br 40960 11 (.ph 0 (.br 0 16 (.ph 131072 (.br 131072 18 (.last 0) (.nil))) (.nil))) (.br 8192 11 (.ph 32768 (.br 32768 16 (.ph 131072 (.br 131072 18 (.last 0) (.nil))) (.nil))) (.br 0 11 (.ph 40960 (.br 40960 16 (.ph 131072 (.br 131072 18 (.last 0) (.nil))) (.nil))) (.nil))))) (.nil))))) (.br 4255 5 (.ph 58176 (.br 58176 10 (.ph 0 (.br 0 11 (.ph 0 (.br 0 16 (.ph 131072 (.br 131072 18 (.last 0) (.nil))) (.nil))) (.nil))) (.br 25408 10 (.ph 32768 (.br 32768 11 (.ph 0 (.br 0 16 (.ph 131072 (.br 131072 18 (.last 0) (.nil))) (.nil))) (.br 0 11 (.ph 32768 (.br 32768 16 (.ph 131072 (.br 131072 18 (.last 0) (.nil))) (.nil))) (.nil)))) (.br 9024 10 (.ph 49152 (.br 49152 11 (.ph 0 (.br 0 16 (.ph 131072 (.br 131072 18 (.last 0) (.nil))) (.nil))) (.br 16384 11 (.ph 32768 (.br 32768 16 (.ph 131072 (.br 131072 18 (.last 0) (.nil))) (.nil))) (.br 0 11 (.ph 49152 (.br 49152 16 (.ph 131072 (.br 131072 18 (.last 0) (.nil))) (.nil))) (.nil))))) (.br 17216 10 (.ph 40960 (.br 40960 11 (.ph 0 (.br 0 16 (.ph 131072 (.br 131072 18 (.last 0) (.nil))) (.nil))) (.br 8192 11 (.ph 32768 (.br 32768 16 (.ph 131072 (.br 131072 18 (.last 0) (.nil))) (.nil))) (.br 0 11 (.ph 40960 (.br 40960 16 (.ph 131072 (.br 131072 18 (.last 0) (.nil))) (.nil))) (.nil))))) (.br 832 10 (.ph 57344 (.br 57344 11 (.ph 0 (.br 0 16 (.ph 131072 (.br 131072 18 (.last 0) (.nil))) (.nil))) (.br 24576 11 (.ph 32768 (.br 32768 16 (.ph 131072 (.br 131072 18 (.last 0) (.nil))) (.nil))) (.br 8192 11 (.ph 49152 (.br 49152 16 (.ph 131072 (.br 131072 18 (.last 0) (.nil))) (.nil))) (.br 16384 11 (.ph 40960 (.br 40960 16 (.ph 131072 (.br 131072 18 (.last 0) (.nil))) (.nil))) (.br 0 11 (.ph 57344 (.br 57344 16 (.ph 131072 (.br 131072 18 (.last 0) (.nil))) (.nil))) (.nil))))))) (.nil))))))) (.br 16543 5 (.ph 45888 (.br 45888 10 (.ph 0 (.br 0 11 (.ph 0 (.br 0 16 (.ph 131072 (.br 131072 18 (.last 0) (.nil))) (.nil))) (.nil))) (.br 13120 10 (.ph 32768 (.br 32768 11 (.ph 0 (.br 0 16 (.ph 131072 (.br 131072 18 (.last 0) (.nil))) (.nil))) (.br 0 11 (.ph 32768 (.br 32768 16 (.ph 131072 (.br 131072 18 (.last 0) (.nil))) (.nil))) (.nil)))) (.br 4928 10 (.ph 40960 (.br 40960 11 (.ph 0 (.br 0 16 (.ph 131072 (.br 131072 18 (.last 0) (.nil))) (.nil))) (.br 8192 11 (.ph 32768 (.br 32768 16 (.ph 131072 (.br 131072 18 (.last 0) (.nil))) (.nil))) (.br 0 11 (.ph 40960 (.br 40960 16 (.ph 131072 (.br 131072 18 (.last 0) (.nil))) (.nil))) (.nil))))) (.br 832 10 (.ph 45056 (.br 45056 11 (.ph 0 (.br 0 16 (.ph 131072 (.br 131072 18 (.last 0) (.nil))) (.nil))) (.br 12288 11 (.ph 32768 (.br 32768 16 (.ph 131072 (.br 131072 18 (.last 0) (.nil))) (.nil))) (.br 4096 11 (.ph 40960 (.br 40960 16 (.ph 131072 (.br 131072 18 (.last 0) (.nil))) (.nil))) (.br 0 11 (.ph 45056 (.br 45056 16 (.ph 131072 (.br 131072 18 (.last 0) (.nil))) (.nil))) (.nil)))))) (.nil)))))) (.br 159 5 (.ph 62272 (.br 62272 10 (.ph 0 (.br 0 11 (.ph 0 (.br 0 16 (.ph 131072 (.br 131072 18 (.last 0) (.nil))) (.nil))) (.nil))) (.br 29504 10 (.ph 32768 (.br 32768 11 (.ph 0 (.br 0 16 (.ph 131072 (.br 131072 18 (.last 0) (.nil))) (.nil))) (.br 0 11 (.ph 32768 (.br 32768 16 (.ph 131072 (.br 131072 18 (.last 0) (.nil))) (.nil))) (.nil)))) (.br 13120 10 (.ph 49152 (.br 49152 11 (.ph 0 (.br 0 16 (.ph 131072 (.br 131072 18 (.last 0) (.nil))) (.nil))) (.br 16384 11 (.ph 32768 (.br 32768 16 (.ph 131072 (.br 131072 18 (.last 0) (.nil))) (.nil))) (.br 0 11 (.ph 49152 (.br 49152 16 (.ph 131072 (.br 131072 18 (.last 0) (.nil))) (.nil))) (.nil))))) (.br 21312 10 (.ph 40960 (.br 40960 11 (.ph 0 (.br 0 16 (.ph 131072 (.br 131072 18 (.last 0) (.nil))) (.nil))) (.br 8192 11 (.ph 32768 (.br 32768 16 (.ph 131072 (.br 131072 18 (.last 0) (.nil))) (.nil))) (.br 0 11 (.ph 40960 (.br 40960 16 (.ph 131072 (.br 131072 18 (.last 0) (.nil))) (.nil))) (.nil))))) (.br 4928 10 (.ph 57344 (.br 57344 11 (.ph 0 (.br 0 16 (.ph 131072 (.br 131072 18 (.last 0) (.nil))) (.nil))) (.br 24576 11 (.ph 32768 (.br 32768 16 (.ph 131072 (.br 131072 18 (.last 0) (.nil))) (.nil))) (.br 8192 11 (.ph 49152 (.br 49152 16 (.ph 131072 (.br 131072 18 (.last 0) (.nil))) (.nil))) (.br 16384 11 (.ph 40960 (.br 40960 16 (.ph 131072 (.br 131072 18 (.last 0) (.nil))) (.nil))) (.br 0 11 (.ph 57344 (.br 57344 16 (.ph 131072 (.br 131072 18 (.last 0) (.nil))) (.nil))) (.nil))))))) (.br 17216 10 (.ph 45056 (.br 45056 11 (.ph 0 (.br 0 16 (.ph 131072 (.br 131072 18 (.last 0) (.nil))) (.nil))) (.br 12288 11 (.ph 32768 (.br 32768 16 (.ph 131072 (.br 131072 18 (.last 0) (.nil))) (.nil))) (.br 4096 11 (.ph 40960 (.br 40960 16 (.ph 131072 (.br 131072 18 (.last 0) (.nil))) (.nil))) (.br 0 11 (.ph 45056 (.br 45056 16 (.ph 131072 (.br 131072 18 (.last 0) (.nil))) (.nil))) (.nil)))))) (.br 832 10 (.ph 61440 (.br 61440 11 (.ph 0 (.br 0 16 (.ph 131072 (.br 131072 18 (.last 0) (.nil))) (.nil))) (.br 28672 11 (.ph 32768 (.br 32768 16 (.ph 131072 (.br 131072 18 (.last 0) (.nil))) (.nil))) (.br 12288 11 (.ph 49152 (.br 49152 16 (.ph 131072 (.br 131072 18 (.last 0) (.nil))) (.nil))) (.br 20480 11 (.ph 40960 (.br 40960 16 (.ph 131072 (.br 131072 18 (.last 0) (.nil))) (.nil))) (.br 4096 11 (.ph 57344 (.br 57344 16 (.ph 131072 (.br 131072 18 (.last 0) (.nil))) (.nil))) (.br 16384 11 (.ph 45056 (.br 45056 16 (.ph 131072 (.br 131072 18 (.last 0) (.nil))) (.nil))) (.br 0 11 (.ph 61440 (.br 61440 16 (.ph 131072 (.br 131072 18 (.last 0) (.nil))) (.nil))) (.nil))))))))) (.nil))))))))) (.br 61471 5 (.ph 960 (.br 960 10 (.ph 0 (.br 0 11 (.ph 0 (.br 0 16 (.ph 131072 (.br 131072 18 (.last 0) (.nil))) (.nil))) (.nil))) (.nil))) (.br 28703 5 (.ph 33728 (.br 33728 10 (.ph 0 (.br 0 11 (.ph 0 (.br 0 16 (.ph 131072 (.br 131072 18 (.last 0) (.nil))) (.nil))) (.nil))) (.br 960 10 (.ph 32768 (.br 32768 11 (.ph 0 (.br 0 16 (.ph 131072 (.br 131072 18 (.last 0) (.nil))) (.nil))) (.br 0 11 (.ph 32768 (.br 32768 16 (.ph 131072 (.br 131072 18 (.last 0) (.nil))) (.nil))) (.nil)))) (.nil)))) (.br 12319 5 (.ph 50112 (.br 50112 10 (.ph 0 (.br 0 11 (.ph 0 (.br 0 16 (.ph 131072 (.br 131072 18 (.last 0) (.nil))) (.nil))) (.nil))) (.br 17344 10 (.ph 32768 (.br 32768 11 (.ph 0 (.br 0 16 (.ph 131072 (.br 131072 18 (.last 0) (.nil))) (.nil))) (.br 0 11 (.ph 32768 (.br 32768 16 (.ph 131072 (.br 131072 18 (.last 0) (.nil))) (.nil))) (.nil)))) (.br 960 10 (.ph 49152 (.br 49152 11 (.ph 0 (.br 0 16 (.ph 131072 (.br 131072 18 (.last 0) (.nil))) (.nil))) (.br 16384 11 (.ph 32768 (.br 32768 16 (.ph 131072 (.br 131072 18 (.last 0) (.nil))) (.nil))) (.br 0 11 (.ph 49152 (.br 49152 16 (.ph 131072 (.br 131072 18 (.last 0) (.nil))) (.nil))) (.nil))))) (.nil))))) (.br 20511 5 (.ph 41920 (.br 41920 10 (.ph 0 (.br 0 11 (.ph 0 (.br 0 16 (.ph 131072 (.br 131072 18 (.last 0) (.nil))) (.nil))) (.nil))) (.br 9152 10 (.ph 32768 (.br 32768 11 (.ph 0 (.br 0 16 (.ph 131072 (.br 131072 18 (.last 0) (.nil))) (.nil))) (.br 0 11 (.ph 32768 (.br 32768 16 (.ph 131072 (.br 131072 18 (.last 0) (.nil))) (.nil))) (.nil)))) (.br 960 10 (.ph 40960 (.br 40960 11 (.ph 0 (.br 0 16 (.ph 131072 (.br 131072 18 (.last 0) (.nil))) (.nil))) (.br 8192 11 (.ph 32768 (.br 32768 16 (.ph 131072 (.br 131072 18 (.last 0) (.nil))) (.nil))) (.br 0 11 (.ph 40960 (.br 40960 16 (.ph 131072 (.br 131072 18 (.last 0) (.nil))) (.nil))) (.nil))))) (.nil))))) (.br 4127 5 (.ph 58304 (.br 58304 10 (.ph 0 (.br 0 11 (.ph 0 (.br 0 16 (.ph 131072 (.br 131072 18 (.last 0) (.nil))) (.nil))) (.nil))) (.br 25536 10 (.ph 32768 (.br 32768 11 (.ph 0 (.br 0 16 (.ph 131072 (.br 131072 18 (.last 0) (.nil))) (.nil))) (.br 0 11 (.ph 32768 (.br 32768 16 (.ph 131072 (.br 131072 18 (.last 0) (.nil))) (.nil))) (.nil)))) (.br 9152 10 (.ph 49152 (.br 49152 11 (.ph 0 (.br 0 16 (.ph 131072 (.br 131072 18 (.last 0) (.nil))) (.nil))) (.br 16384 11 (.ph 32768 (.br 32768 16 (.ph 131072 (.br 131072 18 (.last 0) (.nil))) (.nil))) (.br 0 11 (.ph 49152 (.br 49152 16 (.ph 131072 (.br 131072 18 (.last 0) (.nil))) (.nil))) (.nil))))) (.br 17344 10 (.ph 40960 (.br 40960 11 (.ph 0 (.br 0 16 (.ph 131072 (.br 131072 18 (.last 0) (.nil))) (.nil))) (.br 8192 11 (.ph 32768 (.br 32768 16 (.ph 131072 (.br 131072 18 (.last 0) (.nil))) (.nil))) (.br 0 11 (.ph 40960 (.br 40960 16 (.ph 131072 (.br 131072 18 (.last 0) (.nil))) (.nil))) (.nil))))) (.br 960 10 (.ph 57344 (.br 57344 11 (.ph 0 (.br 0 16 (.ph 131072 (.br 131072 18 (.last 0) (.nil))) (.nil))) (.br 24576 11 (.ph 32768 (.br 32768 16 (.ph 131072 (.br 131072 18 (.last 0) (.nil))) (.nil))) (.br 8192 11 (.ph 49152 (.br 49152 16 (.ph 131072 (.br 131072 18 (.last 0) (.nil))) (.nil))) (.br 16384 11 (.ph 40960 (.br 40960 16 (.ph 131072 (.br 131072 18 (.last 0) (.nil))) (.nil))) (.br 0 11 (.ph 57344 (.br 57344 16 (.ph 131072 (.br 131072 18 (.last 0) (.nil))) (.nil))) (.nil))))))) (.nil))))))) (.br 16415 5 (.ph 46016 (.br 46016 10 (.ph 0 (.br 0 11 (.ph 0 (.br 0 16 (.ph 131072 (.br 131072 18 (.last 0) (.nil))) (.nil))) (.nil))) (.br 13248 10 (.ph 32768 (.br 32768 11 (.ph 0 (.br 0 16 (.ph 131072 (.br 131072 18 (.last 0) (.nil))) (.nil))) (.br 0 11 (.ph 32768 (.br 32768 16 (.ph 131072 (.br 131072 18 (.last 0) (.nil))) (.nil))) (.nil)))) (.br 5056 10 (.ph 40960 (.br 40960 11 (.ph 0 (.br 0 16 (.ph 131072 (.br 131072 18 (.last 0) (.nil))) (.nil))) (.br 8192 11 (.ph 32768 (.br 32768 16 (.ph 131072 (.br 131072 18 (.last 0) (.nil))) (.nil))) (.br 0 11 (.ph 40960 (.br 40960 16 (.ph 131072 (.br 131072 18 (.last 0) (.nil))) (.nil))) (.nil))))) (.br 960 10 (.ph 45056 (.br 45056 11 (.ph 0 (.br 0 16 (.ph 131072 (.br 131072 18 (.last 0) (.nil))) (.nil))) (.br 12288 11 (.ph 32768 (.br 32768 16 (.ph 131072 (.br 131072 18 (.last 0) (.nil))) (.nil))) (.br 4096 11 (.ph 40960 (.br 40960 16 (.ph 131072 (.br 131072 18 (.last 0) (.nil))) (.nil))) (.br 0 11 (.ph 45056 (.br 45056 16 (.ph 131072 (.br 131072 18 (.last 0) (.nil))) (.nil))) (.nil)))))) (.nil)))))) (.br 31 5 (.ph 62400 (.br 62400 10 (.ph 0 (.br 0 11 (.ph 0 (.br 0 16 (.ph 131072 (.br 131072 18 (.last 0) (.nil))) (.nil))) (.nil))) (.br 29632 10 (.ph 32768 (.br 32768 11 (.ph 0 (.br 0 16 (.ph 131072 (.br 131072 18 (.last 0) (.nil))) (.nil))) (.br 0 11 (.ph 32768 (.br 32768 16 (.ph 131072 (.br 131072 18 (.last 0) (.nil))) (.nil))) (.nil)))) (.br 13248 10 (.ph 49152 (.br 49152 11 (.ph 0 (.br 0 16 (.ph 131072 (.br 131072 18 (.last 0) (.nil))) (.nil))) (.br 16384 11 (.ph 32768 (.br 32768 16 (.ph 131072 (.br 131072 18 (.last 0) (.nil))) (.nil))) (.br 0 11 (.ph 49152 (.br 49152 16 (.ph 131072 (.br 131072 18 (.last 0) (.nil))) (.nil))) (.nil))))) (.br 21440 10 (.ph 40960 (.br 40960 11 (.ph 0 (.br 0 16 (.ph 131072 (.br 131072 18 (.last 0) (.nil))) (.nil))) (.br 8192 11 (.ph 32768 (.br 32768 16 (.ph 131072 (.br 131072 18 (.last 0) (.nil))) (.nil))) (.br 0 11 (.ph 40960 (.br 40960 16 (.ph 131072 (.br 131072 18 (.last 0) (.nil))) (.nil))) (.nil))))) (.br 5056 10 (.ph 57344 (.br 57344 11 (.ph 0 (.br 0 16 (.ph 131072 (.br 131072 18 (.last 0) (.nil))) (.nil))) (.br 24576 11 (.ph 32768 (.br 32768 16 (.ph 131072 (.br 131072 18 (.last 0) (.nil))) (.nil))) (.br 8192 11 (.ph 49152 (.br 49152 16 (.ph 131072 (.br 131072 18 (.last 0) (.nil))) (.nil))) (.br 16384 11 (.ph 40960 (.br 40960 16 (.ph 131072 (.br 131072 18 (.last 0) (.nil))) (.nil))) (.br 0 11 (.ph 57344 (.br 57344 16 (.ph 131072 (.br 131072 18 (.last 0) (.nil))) (.nil))) (.nil))))))) (.br 17344 10 (.ph 45056 (.br 45056 11 (.ph 0 (.br 0 16 (.ph 131072 (.br 131072 18 (.last 0) (.nil))) (.nil))) (.br 12288 11 (.ph 32768 (.br 32768 16 (.ph 131072 (.br 131072 18 (.last 0) (.nil))) (.nil))) (.br 4096 11 (.ph 40960 (.br 40960 16 (.ph 131072 (.br 131072 18 (.last 0) (.nil))) (.nil))) (.br 0 11 (.ph 45056 (.br 45056 16 (.ph 131072 (.br 131072 18 (.last 0) (.nil))) (.nil))) (.nil)))))) (.br 960 10 (.ph 61440 (.br 61440 11 (.ph 0 (.br 0 16 (.ph 131072 (.br 131072 18 (.last 0) (.nil))) (.nil))) (.br 28672 11 (.ph 32768 (.br 32768 16 (.ph 131072 (.br 131072 18 (.last 0) (.nil))) (.nil))) (.br 12288 11 (.ph 49152 (.br 49152 16 (.ph 131072 (.br 131072 18 (.last 0) (.nil))) (.nil))) (.br 20480 11 (.ph 40960 (.br 40960 16 (.ph 131072 (.br 131072 18 (.last 0) (.nil))) (.nil))) (.br 4096 11 (.ph 57344 (.br 57344 16 (.ph 131072 (.br 131072 18 (.last 0) (.nil))) (.nil))) (.br 16384 11 (.ph 45056 (.br 45056 16 (.ph 131072 (.br 131072 18 (.last 0) (.nil))) (.nil))) (.br 0 11 (.ph 61440 (.br 61440 16 (.ph 131072 (.br 131072 18 (.last 0) (.nil))) (.nil))) (.nil))))))))) (.nil))))))))) (.nil)))))))))))))))))))))))))))))) 259 MO (by kernel_rfl) rfl (by kernel_rfl) (by (repeat' (first | with_reducible exact AllP.nil | with_reducible refine AllP.mk ?_ ?_ | with_reducible apply And.intro)) <;> skip; (iterate 1 (all_goals try (first | exact (c_spec_l8Copy d hd) | exact fun _ => (c_spec_l8Copy d hd) | exact fun _ _ => (c_spec_l8Copy d hd)))); all_goals (first | (intros; omega) | exact rfl | exact El_all _ (by decide) | exact ⟨rfl, El_all _ (by decide)⟩ | ((intro h1; first | (intro h2; first | (intro h3; refine And.intro ?_ ?_) | refine And.intro ?_ ?_) | refine And.intro ?_ ?_) <;> first | omega | ((try simp only [nb, inr_t, inr_f] at *); (try simp (disch := omega) only [i64w]); omega)) | ((try simp only [nb, inr_t, inr_f] at *); (simp (disch := omega) only [i64w]); omega) | (refine fun _ => ?_; dsimp only [hyps, imps]; omega) | (refine fun _ _ => ?_; dsimp only [hyps, imps]; omega) | exact (u8w _).1 | exact (u8w _).2 | exact (u8n _).1 | exact (u8n _).2 | (simp only [byt, maxLen, lens]; omega) | (intros; simp only [nb] at *; omega))) ?_
    rw [ins_eq]
    refine W.seq ?_
    refine W.seq ?_
    refine W.reg X [] [(48, ⟨false, [.a (.lit (.bool (okSrv s)))]⟩), (52, ⟨false, [.a (.lit (.bool (okSrv (srvAdd s c d))))]⟩)] [3, 6, 8, 54] [] rfl (by (repeat' (first | with_reducible exact AllP.nil | with_reducible refine AllP.mk ?_ ?_ | with_reducible apply And.intro)) <;> skip; (iterate 2 (all_goals try (first | exact (c_spec_IsValidServer s) | exact fun _ => (c_spec_IsValidServer s) | exact fun _ _ => (c_spec_IsValidServer s) | exact (c_spec_IsValidServer (srvAdd s c d)) | exact fun _ => (c_spec_IsValidServer (srvAdd s c d)) | exact fun _ _ => (c_spec_IsValidServer (srvAdd s c d))))); all_goals (first | (intros; omega) | exact rfl | exact El_all _ (by decide) | exact ⟨rfl, El_all _ (by decide)⟩ | ((intro h1; first | (intro h2; first | (intro h3; refine And.intro ?_ ?_) | refine And.intro ?_ ?_) | refine And.intro ?_ ?_) <;> first | omega | ((try simp only [nb, inr_t, inr_f] at *); (try simp (disch := omega) only [i64w]); omega)) | ((try simp only [nb, inr_t, inr_f] at *); (simp (disch := omega) only [i64w]); omega) | (refine fun _ => ?_; dsimp only [hyps, imps]; omega) | (refine fun _ _ => ?_; dsimp only [hyps, imps]; omega) | exact (u8w _).1 | exact (u8w _).2 | exact (u8n _).1 | exact (u8n _).2 | (simp only [byt, maxLen, lens]; omega) | (intros; simp only [nb] at *; omega))) ?_
    refine W.cond rfl (fun hb1 => ?_) (fun hb1 => ?_)
    · have hr : rcvOK s c d = false := rcv_f hb1
      refine W.seq ?_
      refine W.reg X [] [(56, ⟨true, [.agg (dec_Srv s)]⟩)] [6, 7] [] rfl (by (repeat' (first | with_reducible exact AllP.nil | with_reducible refine AllP.mk ?_ ?_ | with_reducible apply And.intro)) <;> skip; (iterate 1 (all_goals try (first | exact (c_spec_l25Copy s hz) | exact fun _ => (c_spec_l25Copy s hz) | exact fun _ _ => (c_spec_l25Copy s hz)))); all_goals (first | (intros; omega) | exact rfl | exact El_all _ (by decide) | exact ⟨rfl, El_all _ (by decide)⟩ | ((intro h1; first | (intro h2; first | (intro h3; refine And.intro ?_ ?_) | refine And.intro ?_ ?_) | refine And.intro ?_ ?_) <;> first | omega | ((try simp only [nb, inr_t, inr_f] at *); (try simp (disch := omega) only [i64w]); omega)) | ((try simp only [nb, inr_t, inr_f] at *); (simp (disch := omega) only [i64w]); omega) | (refine fun _ => ?_; dsimp only [hyps, imps]; omega) | (refine fun _ _ => ?_; dsimp only [hyps, imps]; omega) | exact (u8w _).1 | exact (u8w _).2 | exact (u8n _).1 | exact (u8n _).2 | (simp only [byt, maxLen, lens]; omega) | (intros; simp only [nb] at *; omega))) ?_
      refine W.ret ?_
      exact Fin.ret rfl ⟨by rw [rcv_no hr], by rw [rcv_no hr], by rw [rcv_no hr], by rw [rcv_no hr], by rw [rcv_no hr], by rw [hr], ⟨⟩⟩
    · have hr : rcvOK s c d = true := rcv_t hb1
      refine W.skip ?_
      refine W.seq ?_
      refine W.reg X [] [] [6, 7] [] rfl (by (repeat' (first | exact True.intro | apply And.intro)) <;> first | (intros; omega) | exact rfl | exact El_all _ (by decide) | exact ⟨rfl, El_all _ (by decide)⟩ | ((intro h1; first | (intro h2; first | (intro h3; refine And.intro ?_ ?_) | refine And.intro ?_ ?_) | refine And.intro ?_ ?_) <;> first | omega | ((try simp only [nb, inr_t, inr_f] at *); (try simp (disch := omega) only [i64w]); omega)) | ((try simp only [nb, inr_t, inr_f] at *); (simp (disch := omega) only [i64w]); omega) | (refine fun _ => ?_; dsimp only [hyps, imps]; omega) | (refine fun _ _ => ?_; dsimp only [hyps, imps]; omega) | exact (u8w _).1 | exact (u8w _).2 | exact (u8n _).1 | exact (u8n _).2 | (simp only [byt, maxLen, lens]; omega) | (intros; simp only [nb] at *; omega)) ?_
      refine W.ret ?_
      exact Fin.ret rfl ⟨by rw [rcv_yes hr]; rfl, by rw [rcv_yes hr]; rfl, by rw [rcv_yes hr]; rfl, by rw [rcv_yes hr]; rfl, by rw [rcv_yes hr]; rfl, by rw [hr], ⟨⟩⟩
end Go.Proofs.YthjedjndamejmaaGreat.G
namespace Go.Proofs.YthjedjndamejmaaGreat.G
set_option linter.all false
open Go.RowKit L D
set_option maxRecDepth 100000
theorem c_impl_CollectShares (x : Wld) (h0 : size_Wld x ≤ 1048576) (hsv : x.servers.length ≤ 1048576) : Sound ty Tryz.prog 8 [.agg (dec_Wld x)] [.a (.sl .Srv (colS x)), .a (.sl .Rcp (colR x))] := by
  refine Sound.of X Tryz.call8 Tryz.func8 rfl rfl (by decide) Tryz.ntmps8 (by simp) ?_
  intro zb
  refine W.boundA 0 1 rfl rfl (fun hl1 => ?_)
  refine W.boundA 0 2 rfl rfl (fun hl2 => ?_)
  refine W.seq ?_
  refine W.reg X [] [] [1] [] rfl ⟨⟩ ?_
  refine W.seq ?_
  refine W.seq ?_
  refine W.reg X [] [(10, ⟨false, [.a (.lit (.bool (okW x)))]⟩)] [1, 11] [] rfl (by (repeat' (first | with_reducible exact AllP.nil | with_reducible refine AllP.mk ?_ ?_ | with_reducible apply And.intro)) <;> skip; (iterate 1 (all_goals try (first | exact (c_impl_IsValidWorld x))))) ?_
  refine W.cond rfl (fun hb0 => ?_) (fun hb0 => ?_)
  · have hk0 : okW x = false := by simpa using hb0
    refine W.seq ?_
    refine W.reg X [] [] [2, 3] [] rfl ⟨⟩ ?_
    refine W.ret ?_
    exact Fin.ret rfl ⟨by rw [colS, if_neg (by rw [hk0]; decide)], by rw [colR, if_neg (by rw [hk0]; decide)], ⟨⟩⟩
  · have hk0 : okW x = true := by simpa using hb0
    have hsv4 := okW_srv hk0
    have hdv := (hdW_dev (okW_hd hk0)).2.1
    have hc0 := (col hk0 0 (Nat.zero_le _)).sml
    refine W.skip ?_
    refine W.seq ?_
    refine W.reg X [] [(14, ⟨true, [.a (.sl .Srv x.servers)]⟩)] [1, 4] [] rfl (by (repeat' (first | with_reducible exact AllP.nil | with_reducible refine AllP.mk ?_ ?_ | with_reducible apply And.intro)) <;> skip; (iterate 1 (all_goals try (first | exact (c_impl_copyServers x.servers (by omega) hc0))))) ?_
    refine W.seq ?_
    refine W.reg X [] [] [1, 4, 5] [] rfl (by (repeat' (first | exact True.intro | apply And.intro)) <;> first | exact rfl) ?_
    refine W.seq ?_
    refine W.seq ?_
    refine W.reg X [] [] [1, 4, 5, 18, 19] [] rfl ⟨⟩ ?_
    refine W.block ?_
    refine W.loopO (fun k => k ≤ x.devices.length) (fun k : Nat => [(19, .one (.a (.lit (.int .i64 k))))]) (fun k => [(14, .arr .Srv (srvK x k)), (15, .arr .Rcp (rcpK x k))]) (fun k => x.devices.length - k) 0 (fun k => rfl) (Nat.zero_le _) rfl ?_
    intro k hk
    refine W.seq ?_
    refine W.reg X [] [] [1, 4, 5, 18, 19, 20] [] rfl ⟨⟩ ?_
    refine W.seq ?_
    refine W.cond rfl (fun hb1 => ?_) (fun hb1 => ?_)
    · try simp only [nb, inr_t, inr_f, isEmpty_t] at hb1
      have hkd : k < x.devices.length := by omega
      have hwl : (wshares x (k : Int)).length = x.servers.length := by rw [wshares_eq hk0 (by omega)]; exact sharesW_len hk0 (by omega)
      have hw : wshares x (k : Int) = sharesW x (k : Int) := wshares_eq hk0 (by omega)
      refine W.skip ?_
      refine W.seq ?_
      refine W.block ?_
      refine W.seq ?_
      refine W.reg X [] [] [1, 4, 5, 6, 18, 19] [] rfl ⟨⟩ ?_
      refine W.seq ?_
      refine W.reg X [] [(24, ⟨true, [.a (.sl .DB (wshares x (k : Int)))]⟩)] [1, 4, 5, 6, 18, 19, 24, 25, 26] [] rfl (by (repeat' (first | with_reducible exact AllP.nil | with_reducible refine AllP.mk ?_ ?_ | with_reducible apply And.intro)) <;> skip; (iterate 1 (all_goals try (first | exact (c_impl_WriteShares x (k : Int) (by first | assumption | omega | (simp; done) | (simp; omega))))))) ?_
      refine W.block ?_
      refine W.loopO (fun k1 => k1 ≤ x.servers.length) (fun k1 : Nat => [(26, .one (.a (.lit (.int .i64 k1))))]) (fun k1 => [(14, .arr .Srv (srvP x k k1)), (15, .arr .Rcp (rcpK x k ++ rcpP x k k1))]) (fun k1 => x.servers.length - k1) 0 (fun k1 => rfl) (Nat.zero_le _) (by simp [srvP, rcpP]) ?_
      intro k1 hk1
      have hpl := srvP_len hk0 hkd hk1
      refine W.seq ?_
      refine W.reg X [] [] [1, 4, 5, 6, 18, 19, 24, 25, 26, 27] [] rfl ⟨⟩ ?_
      refine W.seq ?_
      refine W.cond rfl (fun hb2 => ?_) (fun hb2 => ?_)
      · try simp only [nb, inr_t, inr_f, isEmpty_t] at hb2
        have hbs := srvP_bel hk0 hkd (by omega : k1 < x.servers.length)
        have hs1 := srvP_step hk0 hkd (by omega : k1 < x.servers.length)
        have hs2 := rcpP_step x k k1
        have hrl := rcpK_len x k
        have hrp := rcpP_len x k k1
        have hmx : k * x.servers.length ≤ 8 * 4 := Nat.mul_le_mul (by omega) (by omega)
        refine W.skip ?_
        refine W.seq ?_
        refine W.block ?_
        refine W.seq ?_
        refine W.reg X [] [] [1, 4, 5, 6, 7, 8, 18, 19, 24, 25, 26] [] rfl (by (repeat' (first | exact True.intro | apply And.intro)) <;> first | (intros; omega)) ?_
        refine W.seq ?_
        refine W.drawK X [] [(40, ⟨true, [.agg (dec_Srv (rcv ((srvP x k k1).getD k1 (dfl .Srv)) (k : Int) ((wshares x (k : Int)).getD k1 (dfl .DB)))), .a (.lit (.bool (rcvOK ((srvP x k k1).getD k1 (dfl .Srv)) (k : Int) ((wshares x (k : Int)).getD k1 (dfl .DB)))))]⟩)] [1, 4, 5, 6, 7, 8, 18, 19, 24, 25, 26] [] 8191 (.ph 8191 (.br 8191 13 (.last 0) (.br 6143 13 (.last 2048) (.nil)))) 1 MO (by kernel_rfl) rfl (by kernel_rfl) (by (repeat' (first | with_reducible exact AllP.nil | with_reducible refine AllP.mk ?_ ?_ | with_reducible apply And.intro)) <;> skip; (iterate 1 (all_goals try (first | exact (c_impl_ReceiveShare ((srvP x k k1).getD k1 (dfl .Srv)) (k : Int) ((wshares x (k : Int)).getD k1 (dfl .DB)) hbs.2.1 hbs.1 (by rw [hw]; exact hbs.2.2))))); all_goals (first | (intros; omega))) ?_
        refine W.draw X [(56, 15)] [(48, ⟨false, [.a (.lit (.int .i64 (skey x.master (k1 : Int))))]⟩), (54, ⟨false, [.agg (dec_Rcp (mkR (skey x.master (k1 : Int)) (k1 : Int) (k : Int) x.round ((wshares x (k : Int)).getD k1 (dfl .DB))))]⟩)] [1, 4, 5, 6, 18, 19, 24, 25, 26] [] 12 MO (by kernel_rfl) rfl (by (repeat' (first | with_reducible exact AllP.nil | with_reducible refine AllP.mk ?_ ?_ | with_reducible apply And.intro)) <;> skip; (iterate 2 (all_goals try (first | exact (c_impl_ServerKey x.master (k1 : Int)) | exact (c_impl_MakeReceipt (skey x.master (k1 : Int)) (k1 : Int) (k : Int) x.round ((wshares x (k : Int)).getD k1 (dfl .DB)) (by rw [hw]; exact hbs.2.2))))); all_goals (first | exact rfl | exact ⟨rfl, El_all _ (by decide)⟩ | (simp only [byt, maxLen, lens]; omega))) ?_
        refine W.reg X [] [] [1, 4, 5, 6, 18, 19, 24, 25, 26] [] rfl ⟨⟩ ?_
        refine ⟨k1 + 1, by omega, by omega, ?_⟩
        rw [wadd _ k1 rfl (by omega), hw, ← hs1, hs2, ← List.append_assoc]
        try rfl
      · try simp only [nb, inr_t, inr_f, isEmpty_t] at hb2
        rw [srvP_all hk0 hkd (by omega), show k1 = x.servers.length by omega, ← rcpK_step]
        refine W.exit ?_
        refine W.reg X [] [] [1, 4, 5, 18, 19] [] rfl ⟨⟩ ?_
        refine ⟨k + 1, by omega, by omega, ?_⟩
        rw [wadd _ k rfl (by omega)]
        try rfl
    · try simp only [nb, inr_t, inr_f, isEmpty_t] at hb1
      refine W.exit ?_
      refine W.seq ?_
      refine W.reg X [] [] [2, 3] [] rfl ⟨⟩ ?_
      refine W.ret ?_
      exact Fin.ret rfl ⟨by rw [colS, if_pos hk0, show x.devices.length = k by omega], by rw [colR, if_pos hk0, show x.devices.length = k by omega], ⟨⟩⟩
theorem c_spec_CollectShares (x : Wld) (h0 : size_Wld x ≤ 1048576) (hsv : x.servers.length ≤ 1048576) : Sound ty Tryz.prog 6 [.agg (dec_Wld x)] [.a (.sl .Srv (colS x)), .a (.sl .Rcp (colR x))] := by
  refine Sound.of X Tryz.call6 Tryz.func6 rfl rfl (by decide) Tryz.ntmps6 (by simp) ?_
  intro zb
  refine W.boundA 0 1 rfl rfl (fun hl1 => ?_)
  refine W.boundA 0 2 rfl rfl (fun hl2 => ?_)
  refine W.seq ?_
  refine W.reg X [] [] [1] [] rfl ⟨⟩ ?_
  refine W.seq ?_
  refine W.reg X [] [] [1, 4] [] rfl (by (repeat' (first | exact True.intro | apply And.intro)) <;> first | exact rfl) ?_
  refine W.seq ?_
  refine W.seq ?_
  refine W.reg X [] [(13, ⟨false, [.a (.lit (.bool (okW x)))]⟩)] [1, 4, 14] [] rfl (by (repeat' (first | with_reducible exact AllP.nil | with_reducible refine AllP.mk ?_ ?_ | with_reducible apply And.intro)) <;> skip; (iterate 1 (all_goals try (first | exact (c_spec_IsValidWorld x))))) ?_
  refine W.cond rfl (fun hb0 => ?_) (fun hb0 => ?_)
  · have hk0 : okW x = false := by simpa using hb0
    refine W.seq ?_
    refine W.reg X [] [] [2, 3] [] rfl (by (repeat' (first | exact True.intro | apply And.intro)) <;> first | exact rfl) ?_
    refine W.ret ?_
    exact Fin.ret rfl ⟨by rw [colS, if_neg (by rw [hk0]; decide)], by rw [colR, if_neg (by rw [hk0]; decide)], ⟨⟩⟩
  · have hk0 : okW x = true := by simpa using hb0
    have hsv4 := okW_srv hk0
    have hdv := (hdW_dev (okW_hd hk0)).2.1
    have hc0 := (col hk0 0 (Nat.zero_le _)).sml
    refine W.skip ?_
    refine W.seq ?_
    refine W.reg X [] [(18, ⟨true, [.agg (dec_Wld x)]⟩)] [1, 4, 5] [] rfl ⟨⟨_, _, _, Tryz.underlying40, rfl, rfl, Tryz.underlying31, rfl⟩, c_spec_l32Copy x h0, ⟨⟩⟩ ?_
    refine W.seq ?_
    refine W.seq ?_
    refine W.reg X [] [] [1, 4, 5, 6] [] rfl ⟨⟩ ?_
    refine W.block ?_
    refine W.loopO (fun k => k ≤ x.devices.length) (fun k : Nat => [(6, .one (.a (.lit (.int .i64 k))))]) (fun k => [(19, .arr .Srv (srvK x k)), (11, .arr .Rcp (rcpK x k))]) (fun k => x.devices.length - k) 0 (fun k => rfl) (Nat.zero_le _) rfl ?_
    intro k hk
    refine W.seq ?_
    refine W.seq ?_
    refine W.reg X [] [] [1, 4, 5, 6, 24] [] rfl ⟨⟩ ?_
    refine W.cond rfl (fun hb1 => ?_) (fun hb1 => ?_)
    · try simp only [nb, inr_t, inr_f, isEmpty_t] at hb1
      have hkd : k < x.devices.length := by omega
      have hwl : (sharesW x (k : Int)).length = x.servers.length := sharesW_len hk0 (by omega)
      refine W.skip ?_
      refine W.seq ?_
      refine W.block ?_
      refine W.seq ?_
      refine W.reg X [] [(29, ⟨true, [.a (.sl .DB (sharesW x (k : Int)))]⟩)] [1, 4, 5, 6, 7] [] rfl (by (repeat' (first | with_reducible exact AllP.nil | with_reducible refine AllP.mk ?_ ?_ | with_reducible apply And.intro)) <;> skip; (iterate 1 (all_goals try (first | exact (c_spec_l33Shares x (k : Int) (by first | assumption | omega | (simp; done) | (simp; omega)) (by first | assumption | omega | (simp; done) | (simp; omega))))))) ?_
      refine W.seq ?_
      refine W.reg X [] [] [1, 4, 5, 6, 7, 8] [] rfl ⟨⟩ ?_
      refine W.block ?_
      refine W.loopO (fun k1 => k1 ≤ x.servers.length) (fun k1 : Nat => [(8, .one (.a (.lit (.int .i64 k1))))]) (fun k1 => [(19, .arr .Srv (srvP x k k1)), (11, .arr .Rcp (rcpK x k ++ rcpP x k k1))]) (fun k1 => x.servers.length - k1) 0 (fun k1 => rfl) (Nat.zero_le _) (by simp [srvP, rcpP]) ?_
      intro k1 hk1
      have hpl := srvP_len hk0 hkd hk1
      refine W.seq ?_
      refine W.seq ?_
      refine W.reg X [] [] [1, 4, 5, 6, 7, 8, 33] [] rfl ⟨⟩ ?_
      refine W.cond rfl (fun hb2 => ?_) (fun hb2 => ?_)
      · try simp only [nb, inr_t, inr_f, isEmpty_t] at hb2
        rw [hpl] at hb2
        have hbs := srvP_bel hk0 hkd (by omega : k1 < x.servers.length)
        have hs1 := srvP_step hk0 hkd (by omega : k1 < x.servers.length)
        have hs2 := rcpP_step x k k1
        have hrl := rcpK_len x k
        have hrp := rcpP_len x k k1
        have hmx : k * x.servers.length ≤ 8 * 4 := Nat.mul_le_mul (by omega) (by omega)
        refine W.skip ?_
        refine W.seq ?_
        refine W.block ?_
        refine W.seq ?_
        refine W.drawK X [] [(46, ⟨true, [.agg (dec_Srv (rcv ((srvP x k k1).getD k1 (dfl .Srv)) (k : Int) ((sharesW x (k : Int)).getD k1 (dfl .DB)))), .a (.lit (.bool (rcvOK ((srvP x k k1).getD k1 (dfl .Srv)) (k : Int) ((sharesW x (k : Int)).getD k1 (dfl .DB)))))]⟩)] [1, 4, 5, 6, 7, 8, 9] [] 49151 (.ph 16383 (.br 16383 14 (.last 32768) (.br 12287 14 (.last 36864) (.nil)))) 1 MO (by kernel_rfl) rfl (by kernel_rfl) (by (repeat' (first | with_reducible exact AllP.nil | with_reducible refine AllP.mk ?_ ?_ | with_reducible apply And.intro)) <;> skip; (iterate 1 (all_goals try (first | exact (c_spec_ReceiveShare ((srvP x k k1).getD k1 (dfl .Srv)) (k : Int) ((sharesW x (k : Int)).getD k1 (dfl .DB)) hbs.2.1 hbs.1 hbs.2.2)))); all_goals (first | (intros; omega))) ?_
        refine W.seq ?_
        refine W.reg X [] [] [1, 4, 5, 6, 7, 8] [] rfl (by (repeat' (first | exact True.intro | apply And.intro)) <;> first | (intros; omega)) ?_
        refine W.draw X [(68, 11)] [(57, ⟨false, [.a (.lit (.int .i64 (skey x.master (k1 : Int))))]⟩), (66, ⟨false, [.agg (dec_Rcp (mkR (skey x.master (k1 : Int)) (k1 : Int) (k : Int) x.round ((sharesW x (k : Int)).getD k1 (dfl .DB))))]⟩)] [1, 4, 5, 6, 7, 8] [] 15 MO (by kernel_rfl) rfl (by (repeat' (first | with_reducible exact AllP.nil | with_reducible refine AllP.mk ?_ ?_ | with_reducible apply And.intro)) <;> skip; (iterate 2 (all_goals try (first | exact (c_spec_ServerKey x.master (k1 : Int)) | exact (c_spec_MakeReceipt (skey x.master (k1 : Int)) (k1 : Int) (k : Int) x.round ((sharesW x (k : Int)).getD k1 (dfl .DB)) hbs.2.2)))); all_goals (first | (intros; omega) | exact rfl | exact ⟨rfl, El_all _ (by decide)⟩ | (simp only [byt, maxLen, lens]; omega))) ?_
        refine W.reg X [] [] [1, 4, 5, 6, 7, 8] [] rfl ⟨⟩ ?_
        refine ⟨k1 + 1, by omega, by omega, ?_⟩
        rw [wadd _ k1 rfl (by omega), ← hs1, hs2, ← List.append_assoc]
        try rfl
      · try simp only [nb, inr_t, inr_f, isEmpty_t] at hb2
        rw [hpl] at hb2
        rw [srvP_all hk0 hkd (by omega), show k1 = x.servers.length by omega, ← rcpK_step]
        refine W.exit ?_
        refine W.reg X [] [] [1, 4, 5, 6] [] rfl ⟨⟩ ?_
        refine ⟨k + 1, by omega, by omega, ?_⟩
        rw [wadd _ k rfl (by omega)]
        try rfl
    · try simp only [nb, inr_t, inr_f, isEmpty_t] at hb1
      refine W.exit ?_
      refine W.seq ?_
      refine W.reg X [] [] [2, 3] [] rfl ⟨⟩ ?_
      refine W.ret ?_
      exact Fin.ret rfl ⟨by rw [colS, if_pos hk0, show x.devices.length = k by omega], by rw [colR, if_pos hk0, show x.devices.length = k by omega], ⟨⟩⟩
end Go.Proofs.YthjedjndamejmaaGreat.G
namespace Go.Proofs.YthjedjndamejmaaGreat.G
set_option linter.all false
open Go.RowKit L D
set_option maxRecDepth 100000
theorem colS_b {x : Wld} (h : okW x = true) : ∀ k s, s ∈ srvK x k → s.received.length ≤ 8 ∧ ∀ r, r ∈ s.received → okDB r.share = true
  | 0, s, hs => by
    have he : s.received = [] := okW_empty h s hs
    rw [he]; exact ⟨by decide, fun r hr => by cases hr⟩
  | k + 1, s, hs => by
    obtain ⟨t, d, h1, h2, rfl⟩ := step_mem hs
    have ih := colS_b h k t h1
    unfold rcv
    split
    · rename_i hk
      simp only [rcvOK, Bool.and_eq_true] at hk
      refine ⟨(okSrv_b hk.2).2, fun r hr => ?_⟩
      rcases List.mem_append.1 hr with h3 | h3
      · exact ih.2 r h3
      · rw [List.mem_singleton.1 h3]; exact sharesW_ok h d h2
    · exact ih
theorem lsz_bnd {α : Type} (f : α → Nat) (C n : Nat) (l : List α) (h : ∀ y, y ∈ l → f y ≤ C) (hl : l.length ≤ n) : lsz f l ≤ (C + 1) * n := by
  have h1 := sumle f C l h
  have h2 : (C + 1) * l.length ≤ (C + 1) * n := Nat.mul_le_mul_left _ hl
  unfold lsz
  rw [Nat.add_mul, Nat.one_mul] at h2
  omega
theorem colS_mark (x : Wld) : mnl mne_Srv (colS x) ≤ 100000000000 := by
  have h := mnl_lsz (C := 32) (sz := size_Srv) mne_le_Srv (colS x)
  have h2 : lsz size_Srv (colS x) ≤ (8388616 + 1) * 4 := by
    unfold colS
    split
    · rename_i hk
      refine lsz_bnd size_Srv 8388616 4 _ (fun s hs => ?_) (by rw [srvK_len hk (Nat.le_refl _)]; exact (okW_srv hk).1)
      have hb := colS_b hk _ s hs
      exact lsz_bnd size_RShare 1048576 8 _ (fun r hr => okDB_lsz (hb.2 r hr)) hb.1
    · exact by decide
  omega
theorem colR_mark (x : Wld) : mnl mne_Rcp (colR x) ≤ 100000000000 := by
  have h := mnl_lsz (C := 32) (sz := size_Rcp) mne_le_Rcp (colR x)
  have h2 : lsz size_Rcp (colR x) ≤ (0 + 1) * 32 := by
    unfold colR
    split
    · rename_i hk
      refine lsz_bnd size_Rcp 0 32 _ (fun r _ => Nat.le_refl 0) ?_
      rw [rcpK_len]
      exact Nat.mul_le_mul (hdW_dev (okW_hd hk)).2.1 (okW_srv hk).1
    · exact by decide
  omega
theorem c_FnExactCollectShares (x0 : Wld) (h_x0 : (wf_Wld) x0) : Sound ty Tryz.prog 3 [.agg (dec_Wld x0)] [.a (.lit (.bool true))] := by
  refine Sound.of X Tryz.call3 Tryz.func3 rfl rfl (by decide) Tryz.ntmps3 (by simp) ?_
  intro zb
  refine W.seq ?_
  refine W.reg X [] [] [1] [] rfl ⟨⟩ ?_
  refine W.seq ?_
  refine W.reg X [] [] [1, 3] [] rfl ⟨⟩ ?_
  refine W.seq ?_
  refine W.reg X [] [(16, ⟨false, [.a (.lit (.int .i64 (szr (1048576) (size_Wld x0))))]⟩)] [1, 3] [] rfl ⟨c_szWorld x0 (1048576) (by omega) (by omega), ⟨⟩⟩ ?_
  refine W.seq ?_
  refine W.seq ?_
  refine W.reg X [] [] [1, 18] [] rfl ⟨⟩ ?_
  refine W.cond rfl (fun hb0 => ?_) (fun hb0 => ?_)
  · try simp only [nb] at hb0
    refine W.seq ?_
    refine W.reg X [] [] [2] [] rfl ⟨⟩ ?_
    refine W.ret ?_
    exact Fin.ret rfl ⟨rfl, ⟨⟩⟩
  · try simp only [nb] at hb0
    obtain ⟨e0, e0'⟩ := szr_pos hb0
    rw [e0]
    have hsz : size_Wld x0 ≤ 1048576 := by omega
    have hmx := mnv_le_Wld x0
    have hdev := dev_le hsz
    have hsrv := srv_le hsz
    have hr1 := colS_mark x0
    have hr2 := colR_mark x0
    refine W.skip ?_
    refine W.seq ?_
    refine W.reg X [(21, 225), (22, 250)] [(21, ⟨true, [.agg (dec_Wld x0)]⟩), (22, ⟨true, [.a (.sl .Srv (colS x0)), .a (.sl .Rcp (colR x0))]⟩)] [1, 4, 5] [] rfl ⟨c_spec_CollectShares x0 hsz hsrv, c_toWorld x0 (by omega), ⟨⟩⟩ ?_
    refine W.seq ?_
    refine W.reg X [(26, 275)] [(26, ⟨true, [.agg (dec_Wld x0)]⟩)] [1, 4, 5, 6] [] rfl ⟨c_toWorld x0 (by omega), ⟨⟩⟩ ?_
    refine W.seq ?_
    refine W.reg X [(29, 300)] [(29, ⟨true, [.a (.sl .Srv (colS x0)), .a (.sl .Rcp (colR x0))]⟩)] [1, 4, 5, 6, 7, 8] [] rfl ⟨c_impl_CollectShares x0 hsz hsrv, ⟨⟩⟩ ?_
    refine W.seq ?_
    refine W.seq ?_
    refine W.reg X [] [(34, ⟨false, [.a (.lit (.bool true))]⟩), (39, ⟨false, [.a (.lit (.bool true))]⟩)] [1, 4, 5, 6, 7, 8, 41] [] rfl ⟨fun _ => c_eqReceiptS (colR x0), c_eqServerS (colS x0), ⟨⟩⟩ ?_
    refine W.cond rfl (fun hb1 => ?_) (fun hb1 => ?_)
    · exact absurd hb1 (by first | (simp; done) | (simp; omega))
    · clear hb1
      refine W.skip ?_
      refine W.seq ?_
      refine W.seq ?_
      refine W.draw X [(44, 325)] [(44, ⟨true, [.agg (dec_Wld x0)]⟩), (45, ⟨false, [.a (.lit (.bool true))]⟩)] [1, 4, 5, 6, 7, 8, 46] [] 5 MO (by kernel_rfl) rfl ⟨c_eqWorld x0, c_toWorld x0 (by omega), ⟨⟩⟩ ?_
      refine W.cond rfl (fun hb2 => ?_) (fun hb2 => ?_)
      · exact absurd hb2 (by first | (simp; done) | (simp; omega))
      · clear hb2
        refine W.skip ?_
        refine W.seq ?_
        refine W.reg X [] [] [1, 4, 5, 6, 7, 8, 9] [] rfl ⟨⟩ ?_
        refine W.seq ?_
        refine W.reg X [] [(100049, ⟨false, [.a (.lit (.int .i64 (1 + (mnv_Wld x0 : Nat)))), .agg (dec_Wld (mkv_Wld (1) x0)), .a (.lit (.int .i64 (1)))]⟩)] [1, 4, 5, 7, 8, 9] [] rfl ⟨c_markWorld x0 (1) (by omega) (by omega), ⟨⟩⟩ ?_
        refine W.seq ?_
        refine W.seq ?_
        refine W.reg X [] [(55, ⟨false, [.a (.lit (.bool true))]⟩), (61, ⟨false, [.a (.lit (.bool true))]⟩)] [1, 4, 5, 7, 8, 63] [] rfl ⟨fun _ => c_eqReceiptS (colR x0), fun _ => c_eqServerS (colS x0), ⟨⟩⟩ ?_
        refine W.cond rfl (fun hb3 => ?_) (fun hb3 => ?_)
        · exact absurd hb3 (by first | (simp; done) | (simp; omega))
        · clear hb3
          refine W.skip ?_
          refine W.seq ?_
          refine W.reg X [] [] [1, 4, 5, 7, 8, 10] [] rfl ⟨⟩ ?_
          refine W.seq ?_
          refine W.reg X [] [(100066, ⟨false, [.a (.lit (.int .i64 (1 + ((mnl mne_Srv) (colS x0) : Nat)))), .a (.sl .Srv ((mkl mke_Srv mne_Srv) (1) (colS x0))), .a (.lit (.int .i64 (1)))]⟩)] [1, 4, 5, 7, 8, 10] [] rfl ⟨c_markServerS (colS x0) (1) (by omega) (by omega), ⟨⟩⟩ ?_
          refine W.seq ?_
          refine W.reg X [] [(100069, ⟨false, [.a (.lit (.int .i64 (1 + ((mnl mne_Srv) (colS x0) : Nat) + ((mnl mne_Rcp) (colR x0) : Nat)))), .a (.sl .Rcp ((mkl mke_Rcp mne_Rcp) (1 + ((mnl mne_Srv) (colS x0) : Nat)) (colR x0))), .a (.lit (.int .i64 (1 + ((mnl mne_Srv) (colS x0) : Nat))))]⟩)] [1, 4, 5, 7, 8, 10] [] rfl ⟨c_markReceiptS (colR x0) (1 + ((mnl mne_Srv) (colS x0) : Nat)) (by omega) (by omega), ⟨⟩⟩ ?_
          refine W.seq ?_
          refine W.reg X [] [] [1, 4, 5, 7, 8, 10, 11] [] rfl ⟨⟩ ?_
          refine W.seq ?_
          refine W.reg X [] [(72, ⟨false, [.a (.lit (.int .i64 (1 + ((mnl mne_Srv) (colS x0) : Nat))))]⟩)] [1, 4, 5, 7, 8, 10, 11] [] rfl ⟨c_heldServerS (colS x0) (1) (by omega) (by omega), ⟨⟩⟩ ?_
          refine W.seq ?_
          refine W.seq ?_
          refine W.reg X [] [] [1, 4, 5, 7, 8, 10, 11, 74] [] rfl ⟨⟩ ?_
          refine W.cond rfl (fun hb4 => ?_) (fun hb4 => ?_)
          · exact absurd hb4 (by first | (simp; done) | (simp; omega))
          · clear hb4
            refine W.skip ?_
            refine W.seq ?_
            refine W.reg X [] [(77, ⟨false, [.a (.lit (.int .i64 (1 + ((mnl mne_Srv) (colS x0) : Nat) + ((mnl mne_Rcp) (colR x0) : Nat))))]⟩)] [1, 4, 5, 7, 8, 10, 11] [] rfl ⟨c_heldReceiptS (colR x0) (1 + ((mnl mne_Srv) (colS x0) : Nat)) (by omega) (by omega), ⟨⟩⟩ ?_
            refine W.seq ?_
            refine W.seq ?_
            refine W.reg X [] [] [1, 4, 5, 7, 8, 10, 11, 79] [] rfl ⟨⟩ ?_
            refine W.cond rfl (fun hb5 => ?_) (fun hb5 => ?_)
            · exact absurd hb5 (by first | (simp; done) | (simp; omega))
            · clear hb5
              refine W.skip ?_
              refine W.seq ?_
              refine W.seq ?_
              refine W.reg X [] [] [1, 4, 5, 7, 8, 10, 82] [] rfl ⟨⟩ ?_
              refine W.cond rfl (fun hb6 => ?_) (fun hb6 => ?_)
              · exact absurd hb6 (by first | (simp; done) | (simp; omega))
              · clear hb6
                refine W.skip ?_
                refine W.seq ?_
                refine W.reg X [(85, 350), (86, 375)] [(85, ⟨true, [.agg (dec_Wld x0)]⟩), (86, ⟨true, [.a (.sl .Srv (colS x0)), .a (.sl .Rcp (colR x0))]⟩)] [4, 5, 7, 8, 10, 12, 13] [] rfl ⟨c_impl_CollectShares x0 hsz hsrv, c_toWorld x0 (by omega), ⟨⟩⟩ ?_
                refine W.seq ?_
                refine W.seq ?_
                refine W.reg X [] [(91, ⟨false, [.a (.lit (.bool true))]⟩), (96, ⟨false, [.a (.lit (.bool true))]⟩)] [7, 8, 10, 98] [] rfl ⟨fun _ => c_eqReceiptS (colR x0), c_eqServerS (colS x0), ⟨⟩⟩ ?_
                refine W.cond rfl (fun hb7 => ?_) (fun hb7 => ?_)
                · exact absurd hb7 (by first | (simp; done) | (simp; omega))
                · clear hb7
                  refine W.skip ?_
                  refine W.seq ?_
                  refine W.reg X [] [] [7, 8, 10, 11] [] rfl ⟨⟩ ?_
                  refine W.seq ?_
                  refine W.reg X [] [(101, ⟨false, [.a (.lit (.int .i64 (1 + ((mnl mne_Srv) (colS x0) : Nat))))]⟩)] [8, 10, 11] [] rfl ⟨c_heldServerS (colS x0) (1) (by omega) (by omega), ⟨⟩⟩ ?_
                  refine W.seq ?_
                  refine W.seq ?_
                  refine W.reg X [] [] [8, 10, 11, 103] [] rfl ⟨⟩ ?_
                  refine W.cond rfl (fun hb8 => ?_) (fun hb8 => ?_)
                  · exact absurd hb8 (by first | (simp; done) | (simp; omega))
                  · clear hb8
                    refine W.skip ?_
                    refine W.seq ?_
                    refine W.reg X [] [(106, ⟨false, [.a (.lit (.int .i64 (1 + ((mnl mne_Srv) (colS x0) : Nat) + ((mnl mne_Rcp) (colR x0) : Nat))))]⟩)] [10, 11] [] rfl ⟨c_heldReceiptS (colR x0) (1 + ((mnl mne_Srv) (colS x0) : Nat)) (by omega) (by omega), ⟨⟩⟩ ?_
                    refine W.seq ?_
                    refine W.seq ?_
                    refine W.reg X [] [] [10, 11, 108] [] rfl ⟨⟩ ?_
                    refine W.cond rfl (fun hb9 => ?_) (fun hb9 => ?_)
                    · exact absurd hb9 (by first | (simp; done) | (simp; omega))
                    · clear hb9
                      refine W.skip ?_
                      refine W.seq ?_
                      refine W.seq ?_
                      refine W.reg X [] [] [111] [] rfl ⟨⟩ ?_
                      refine W.cond rfl (fun hb10 => ?_) (fun hb10 => ?_)
                      · exact absurd hb10 (by first | (simp; done) | (simp; omega))
                      · clear hb10
                        refine W.skip ?_
                        refine W.seq ?_
                        refine W.reg X [] [] [2] [] rfl ⟨⟩ ?_
                        refine W.ret ?_
                        exact Fin.ret rfl ⟨rfl, ⟨⟩⟩
end Go.Proofs.YthjedjndamejmaaGreat.G
