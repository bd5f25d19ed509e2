/-
  Selections, their exclusive or, queries, seeds of reads. No program in sight.
-/
import Derived.Test.YtlocnjfgeifmnaaGreatZSelectionViewM8
namespace Go.Proofs.YtlocnjfgeifmnaaGreat.G
set_option linter.all false
open Go.RowKit L D
set_option maxRecDepth 100000
theorem c_heldByteS (l : (List UInt8)) (k0 : Int) (h0 : 0 ≤ k0) (h1 : k0 + ((mnl (fun _ => 1)) l : Nat) ≤ 1099511627776) : Sound ty Tryz.prog 175 [.a (.sl .u8 ((mkl mku8 (fun _ => 1)) k0 l)), .a (.lit (.int .i64 k0))] [.a (.lit (.int .i64 (k0 + ((mnl (fun _ => 1)) l : Nat))))] := by
  refine Sound.of X Tryz.call175 Tryz.func175 rfl rfl (by decide) Tryz.ntmps175 (by simp) ?_
  intro zb
  refine W.bound 0 rfl fun hl => ?_
  rw [mkl_len] at hl
  refine W.seq ?_
  refine W.reg X [] [] [0, 1] [] rfl ⟨⟩ ?_
  refine W.seq ?_
  refine W.seq ?_
  refine W.reg X [] [] [0, 1, 5] [] rfl ⟨⟩ ?_
  refine W.block ?_
  refine W.loopO (fun k => k ≤ l.length) (fun k : Nat => [(1, .one (.a (.lit (.int .i64 (k0 + (mnl (fun _ => 1) (l.take k) : Nat)))))), (5, .one (.a (.lit (.int .i64 k))))]) (fun k => []) (fun k => l.length - k) 0 (fun k => rfl) (Nat.zero_le _) (by simp [mnl]) ?_
  intro k hk
  refine W.seq ?_
  refine W.seq ?_
  refine W.reg X [] [] [0, 1, 5, 9] [] rfl ⟨⟩ ?_
  refine W.cond rfl (fun hb0 => ?_) (fun hb0 => ?_)
  · rw [mkl_len] at hb0
    try simp only [nb] at hb0
    have hg := mkl_getD (mk := mku8) (mn := (fun _ => 1)) (k := k0) (d := dfl .u8) hb0
    have hms := mnl_step (mn := (fun _ => 1)) l (dfl .u8) k hb0
    have hml := mnl_le (mn := (fun _ => 1)) l (k + 1)
    have hlen : (mkl mku8 (fun _ => 1) k0 l).length = l.length := mkl_len
    generalize l.getD k (dfl .u8) = e at hg hms
    refine W.skip ?_
    refine W.seq ?_
    refine W.block ?_
    refine W.seq ?_
    refine W.seq ?_
    refine W.reg X [] [] [0, 1, 5, 18] [] rfl (by (repeat' (first | exact True.intro | apply And.intro)) <;> first | (intros; omega) | exact rfl | exact El_all _ (by decide) | exact ⟨rfl, El_all _ (by decide)⟩ | ((intro h1; first | (intro h2; first | (intro h3; refine And.intro ?_ ?_) | refine And.intro ?_ ?_) | refine And.intro ?_ ?_) <;> first | omega | ((try simp only [nb, inr_t, inr_f] at *); (try simp (disch := omega) only [i64w]); omega)) | ((try simp only [nb, inr_t, inr_f] at *); (simp (disch := omega) only [i64w]); omega) | (refine fun _ => ?_; dsimp only [hyps, imps]; omega) | (refine fun _ _ => ?_; dsimp only [hyps, imps]; omega) | exact (u8w _).1 | exact (u8w _).2 | exact (u8n _).1 | exact (u8n _).2 | (simp only [byt, maxLen, lens]; omega) | (intros; simp only [nb] at *; omega)) ?_
    refine W.cond rfl (fun hb1 => ?_) (fun hb1 => ?_)
    · exact absurd hb1 (by first | (simp only [decide_eq_true_eq]; omega) | (simp only [Int.toNat_natCast, hg]; simp; done) | (simp only [Int.toNat_natCast, hg, mku8, u8_rt]; simp))
    · clear hb1
      refine W.skip ?_
      refine W.reg X [] [] [0, 1, 5] [] rfl ⟨⟩ ?_
      rw [IntWalk.i64_in ((k0 + (mnl (fun _ => 1) (l.take k) : Nat)) + 1) (by omega)]
      refine W.reg X [] [] [0, 1, 5] [] rfl ⟨⟩ ?_
      refine ⟨k + 1, by omega, by omega, ?_⟩
      rw [wadd _ k rfl (by omega), show (k0 + (mnl (fun _ => 1) (l.take k) : Nat)) + 1 = k0 + (mnl (fun _ => 1) (l.take (k + 1)) : Nat) by omega]
      try rfl
  · rw [mkl_len] at hb0
    try simp only [nb] at hb0
    refine W.exit ?_
    refine W.seq ?_
    refine W.reg X [] [] [4] [] rfl ⟨⟩ ?_
    refine W.ret ?_
    exact Fin.ret rfl ⟨by rw [List.take_of_length_le (by omega)], ⟨⟩⟩
theorem c_heldByteSS (l : (List (List UInt8))) (k0 : Int) (h0 : 0 ≤ k0) (h1 : k0 + ((mnl (mnl (fun _ => 1))) l : Nat) ≤ 1099511627776) : Sound ty Tryz.prog 96 [.a (.sl (.sl .u8) ((mkl (mkl mku8 (fun _ => 1)) (mnl (fun _ => 1))) k0 l)), .a (.lit (.int .i64 k0))] [.a (.lit (.int .i64 (k0 + ((mnl (mnl (fun _ => 1))) l : Nat))))] := by
  refine Sound.of X Tryz.call96 Tryz.func96 rfl rfl (by decide) Tryz.ntmps96 (by simp) ?_
  intro zb
  refine W.bound 0 rfl fun hl => ?_
  rw [mkl_len] at hl
  refine W.seq ?_
  refine W.reg X [] [] [0, 1] [] rfl ⟨⟩ ?_
  refine W.seq ?_
  refine W.seq ?_
  refine W.reg X [] [] [0, 1, 5] [] rfl ⟨⟩ ?_
  refine W.block ?_
  refine W.loopO (fun k => k ≤ l.length) (fun k : Nat => [(1, .one (.a (.lit (.int .i64 (k0 + (mnl (mnl (fun _ => 1)) (l.take k) : Nat)))))), (5, .one (.a (.lit (.int .i64 k))))]) (fun k => []) (fun k => l.length - k) 0 (fun k => rfl) (Nat.zero_le _) (by simp [mnl]) ?_
  intro k hk
  refine W.seq ?_
  refine W.seq ?_
  refine W.reg X [] [] [0, 1, 5, 9] [] rfl ⟨⟩ ?_
  refine W.cond rfl (fun hb0 => ?_) (fun hb0 => ?_)
  · rw [mkl_len] at hb0
    try simp only [nb] at hb0
    have hg := mkl_getD (mk := (mkl mku8 (fun _ => 1))) (mn := (mnl (fun _ => 1))) (k := k0) (d := dfl (.sl .u8)) hb0
    have hms := mnl_step (mn := (mnl (fun _ => 1))) l (dfl (.sl .u8)) k hb0
    have hml := mnl_le (mn := (mnl (fun _ => 1))) l (k + 1)
    have hlen : (mkl (mkl mku8 (fun _ => 1)) (mnl (fun _ => 1)) k0 l).length = l.length := mkl_len
    generalize l.getD k (dfl (.sl .u8)) = e at hg hms
    refine W.skip ?_
    refine W.seq ?_
    refine W.block ?_
    refine W.seq ?_
    refine W.reg X [] [(17, ⟨false, [.a (.lit (.int .i64 ((k0 + (mnl (mnl (fun _ => 1)) (l.take k) : Nat)) + ((mnl (fun _ => 1)) e : Nat))))]⟩)] [0, 1, 5] [] rfl (by (repeat' (first | exact True.intro | exact c_heldByteS e ((k0 + (mnl (mnl (fun _ => 1)) (l.take k) : Nat))) (by omega) (by omega) | (simp only [Int.toNat_natCast, hg]; exact c_heldByteS e ((k0 + (mnl (mnl (fun _ => 1)) (l.take k) : Nat))) (by omega) (by omega)) | apply And.intro)) <;> first | (intros; omega) | exact rfl | exact El_all _ (by decide) | exact ⟨rfl, El_all _ (by decide)⟩ | ((intro h1; first | (intro h2; first | (intro h3; refine And.intro ?_ ?_) | refine And.intro ?_ ?_) | refine And.intro ?_ ?_) <;> first | omega | ((try simp only [nb, inr_t, inr_f] at *); (try simp (disch := omega) only [i64w]); omega)) | ((try simp only [nb, inr_t, inr_f] at *); (simp (disch := omega) only [i64w]); omega) | (refine fun _ => ?_; dsimp only [hyps, imps]; omega) | (refine fun _ _ => ?_; dsimp only [hyps, imps]; omega) | exact (u8w _).1 | exact (u8w _).2 | exact (u8n _).1 | exact (u8n _).2 | (simp only [byt, maxLen, lens]; omega) | (intros; simp only [nb] at *; omega)) ?_
    refine W.seq ?_
    refine W.reg X [] [] [0, 1, 5, 19] [] rfl ⟨⟩ ?_
    refine W.cond rfl (fun hb1 => ?_) (fun hb1 => ?_)
    · exact absurd hb1 (by first | (simp only [decide_eq_true_eq]; omega) | (simp only [Int.toNat_natCast, hg]; simp; done) | (simp only [Int.toNat_natCast, hg, mku8, u8_rt]; simp))
    · clear hb1
      refine W.skip ?_
      refine W.reg X [] [] [0, 1, 5] [] rfl ⟨⟩ ?_
      refine ⟨k + 1, by omega, by omega, ?_⟩
      rw [wadd _ k rfl (by omega), show (k0 + (mnl (mnl (fun _ => 1)) (l.take k) : Nat)) + ((mnl (fun _ => 1)) e : Nat) = k0 + (mnl (mnl (fun _ => 1)) (l.take (k + 1)) : Nat) by omega]
      try rfl
  · rw [mkl_len] at hb0
    try simp only [nb] at hb0
    refine W.exit ?_
    refine W.seq ?_
    refine W.reg X [] [] [4] [] rfl ⟨⟩ ?_
    refine W.ret ?_
    exact Fin.ret rfl ⟨by rw [List.take_of_length_le (by omega)], ⟨⟩⟩
theorem c_heldDatabaseS (l : (List DB)) (k0 : Int) (h0 : 0 ≤ k0) (h1 : k0 + ((mnl mne_DB) l : Nat) ≤ 1099511627776) : Sound ty Tryz.prog 40 [.a (.sl .DB ((mkl mke_DB mne_DB) k0 l)), .a (.lit (.int .i64 k0))] [.a (.lit (.int .i64 (k0 + ((mnl mne_DB) l : Nat))))] := by
  refine Sound.of X Tryz.call40 Tryz.func40 rfl rfl (by decide) Tryz.ntmps40 (by simp) ?_
  intro zb
  refine W.bound 0 rfl fun hl => ?_
  rw [mkl_len] at hl
  refine W.seq ?_
  refine W.reg X [] [] [0, 1] [] rfl ⟨⟩ ?_
  refine W.seq ?_
  refine W.seq ?_
  refine W.reg X [] [] [0, 1, 5] [] rfl ⟨⟩ ?_
  refine W.block ?_
  refine W.loopO (fun k => k ≤ l.length) (fun k : Nat => [(1, .one (.a (.lit (.int .i64 (k0 + (mnl mne_DB (l.take k) : Nat)))))), (5, .one (.a (.lit (.int .i64 k))))]) (fun k => []) (fun k => l.length - k) 0 (fun k => rfl) (Nat.zero_le _) (by simp [mnl]) ?_
  intro k hk
  refine W.seq ?_
  refine W.seq ?_
  refine W.reg X [] [] [0, 1, 5, 9] [] rfl ⟨⟩ ?_
  refine W.cond rfl (fun hb0 => ?_) (fun hb0 => ?_)
  · rw [mkl_len] at hb0
    try simp only [nb] at hb0
    have hg := mkl_getD (mk := mke_DB) (mn := mne_DB) (k := k0) (d := dfl .DB) hb0
    have hms := mnl_step (mn := mne_DB) l (dfl .DB) k hb0
    have hml := mnl_le (mn := mne_DB) l (k + 1)
    have hlen : (mkl mke_DB mne_DB k0 l).length = l.length := mkl_len
    generalize l.getD k (dfl .DB) = e at hg hms
    simp only [mne_DB] at hms
    simp only [mke_DB] at hg
    refine W.skip ?_
    refine W.seq ?_
    refine W.block ?_
    refine W.seq ?_
    refine W.reg X [] [(18, ⟨false, [.a (.lit (.int .i64 ((k0 + (mnl mne_DB (l.take k) : Nat)) + ((mnl (mnl (fun _ => 1))) e.rows : Nat))))]⟩)] [0, 1, 5] [] rfl (by (repeat' (first | exact True.intro | exact c_heldByteSS e.rows ((k0 + (mnl mne_DB (l.take k) : Nat))) (by omega) (by omega) | (simp only [Int.toNat_natCast, hg]; exact c_heldByteSS e.rows ((k0 + (mnl mne_DB (l.take k) : Nat))) (by omega) (by omega)) | apply And.intro)) <;> first | (intros; omega) | exact rfl | exact El_all _ (by decide) | exact ⟨rfl, El_all _ (by decide)⟩ | ((intro h1; first | (intro h2; first | (intro h3; refine And.intro ?_ ?_) | refine And.intro ?_ ?_) | refine And.intro ?_ ?_) <;> first | omega | ((try simp only [nb, inr_t, inr_f] at *); (try simp (disch := omega) only [i64w]); omega)) | ((try simp only [nb, inr_t, inr_f] at *); (simp (disch := omega) only [i64w]); omega) | (refine fun _ => ?_; dsimp only [hyps, imps]; omega) | (refine fun _ _ => ?_; dsimp only [hyps, imps]; omega) | exact (u8w _).1 | exact (u8w _).2 | exact (u8n _).1 | exact (u8n _).2 | (simp only [byt, maxLen, lens]; omega) | (intros; simp only [nb] at *; omega)) ?_
    refine W.seq ?_
    refine W.reg X [] [] [0, 1, 5, 20] [] rfl ⟨⟩ ?_
    refine W.cond rfl (fun hb1 => ?_) (fun hb1 => ?_)
    · exact absurd hb1 (by first | (simp only [decide_eq_true_eq]; omega) | (simp only [Int.toNat_natCast, hg]; simp; done) | (simp only [Int.toNat_natCast, hg, mku8, u8_rt]; simp))
    · clear hb1
      refine W.skip ?_
      refine W.reg X [] [] [0, 1, 5] [] rfl ⟨⟩ ?_
      refine ⟨k + 1, by omega, by omega, ?_⟩
      rw [wadd _ k rfl (by omega), show (k0 + (mnl mne_DB (l.take k) : Nat)) + ((mnl (mnl (fun _ => 1))) e.rows : Nat) = k0 + (mnl mne_DB (l.take (k + 1)) : Nat) by omega]
      try rfl
  · rw [mkl_len] at hb0
    try simp only [nb] at hb0
    refine W.exit ?_
    refine W.seq ?_
    refine W.reg X [] [] [4] [] rfl ⟨⟩ ?_
    refine W.ret ?_
    exact Fin.ret rfl ⟨by rw [List.take_of_length_le (by omega)], ⟨⟩⟩
theorem c_heldIntS (l : (List Int)) (k0 : Int) (h0 : 0 ≤ k0) (h1 : k0 + ((mnl (fun _ => 1)) l : Nat) ≤ 1099511627776) : Sound ty Tryz.prog 23 [.a (.sl .int ((mkl (fun k _ => k) (fun _ => 1)) k0 l)), .a (.lit (.int .i64 k0))] [.a (.lit (.int .i64 (k0 + ((mnl (fun _ => 1)) l : Nat))))] := by
  refine Sound.of X Tryz.call23 Tryz.func23 rfl rfl (by decide) Tryz.ntmps23 (by simp) ?_
  intro zb
  refine W.bound 0 rfl fun hl => ?_
  rw [mkl_len] at hl
  refine W.seq ?_
  refine W.reg X [] [] [0, 1] [] rfl ⟨⟩ ?_
  refine W.seq ?_
  refine W.seq ?_
  refine W.reg X [] [] [0, 1, 5] [] rfl ⟨⟩ ?_
  refine W.block ?_
  refine W.loopO (fun k => k ≤ l.length) (fun k : Nat => [(1, .one (.a (.lit (.int .i64 (k0 + (mnl (fun _ => 1) (l.take k) : Nat)))))), (5, .one (.a (.lit (.int .i64 k))))]) (fun k => []) (fun k => l.length - k) 0 (fun k => rfl) (Nat.zero_le _) (by simp [mnl]) ?_
  intro k hk
  refine W.seq ?_
  refine W.seq ?_
  refine W.reg X [] [] [0, 1, 5, 9] [] rfl ⟨⟩ ?_
  refine W.cond rfl (fun hb0 => ?_) (fun hb0 => ?_)
  · rw [mkl_len] at hb0
    try simp only [nb] at hb0
    have hg := mkl_getD (mk := (fun k _ => k)) (mn := (fun _ => 1)) (k := k0) (d := dfl .int) hb0
    have hms := mnl_step (mn := (fun _ => 1)) l (dfl .int) k hb0
    have hml := mnl_le (mn := (fun _ => 1)) l (k + 1)
    have hlen : (mkl (fun k _ => k) (fun _ => 1) k0 l).length = l.length := mkl_len
    generalize l.getD k (dfl .int) = e at hg hms
    refine W.skip ?_
    refine W.seq ?_
    refine W.block ?_
    refine W.seq ?_
    refine W.seq ?_
    refine W.reg X [] [] [0, 1, 5, 17] [] rfl (by (repeat' (first | exact True.intro | apply And.intro)) <;> first | (intros; omega) | exact rfl | exact El_all _ (by decide) | exact ⟨rfl, El_all _ (by decide)⟩ | ((intro h1; first | (intro h2; first | (intro h3; refine And.intro ?_ ?_) | refine And.intro ?_ ?_) | refine And.intro ?_ ?_) <;> first | omega | ((try simp only [nb, inr_t, inr_f] at *); (try simp (disch := omega) only [i64w]); omega)) | ((try simp only [nb, inr_t, inr_f] at *); (simp (disch := omega) only [i64w]); omega) | (refine fun _ => ?_; dsimp only [hyps, imps]; omega) | (refine fun _ _ => ?_; dsimp only [hyps, imps]; omega) | exact (u8w _).1 | exact (u8w _).2 | exact (u8n _).1 | exact (u8n _).2 | (simp only [byt, maxLen, lens]; omega) | (intros; simp only [nb] at *; omega)) ?_
    refine W.cond rfl (fun hb1 => ?_) (fun hb1 => ?_)
    · exact absurd hb1 (by first | (simp only [decide_eq_true_eq]; omega) | (simp only [Int.toNat_natCast, hg]; simp; done) | (simp only [Int.toNat_natCast, hg, mku8, u8_rt]; simp))
    · clear hb1
      refine W.skip ?_
      refine W.reg X [] [] [0, 1, 5] [] rfl ⟨⟩ ?_
      rw [IntWalk.i64_in ((k0 + (mnl (fun _ => 1) (l.take k) : Nat)) + 1) (by omega)]
      refine W.reg X [] [] [0, 1, 5] [] rfl ⟨⟩ ?_
      refine ⟨k + 1, by omega, by omega, ?_⟩
      rw [wadd _ k rfl (by omega), show (k0 + (mnl (fun _ => 1) (l.take k) : Nat)) + 1 = k0 + (mnl (fun _ => 1) (l.take (k + 1)) : Nat) by omega]
      try rfl
  · rw [mkl_len] at hb0
    try simp only [nb] at hb0
    refine W.exit ?_
    refine W.seq ?_
    refine W.reg X [] [] [4] [] rfl ⟨⟩ ?_
    refine W.ret ?_
    exact Fin.ret rfl ⟨by rw [List.take_of_length_le (by omega)], ⟨⟩⟩
theorem c_heldIntSS (l : (List (List Int))) (k0 : Int) (h0 : 0 ≤ k0) (h1 : k0 + ((mnl (mnl (fun _ => 1))) l : Nat) ≤ 1099511627776) : Sound ty Tryz.prog 30 [.a (.sl (.sl .int) ((mkl (mkl (fun k _ => k) (fun _ => 1)) (mnl (fun _ => 1))) k0 l)), .a (.lit (.int .i64 k0))] [.a (.lit (.int .i64 (k0 + ((mnl (mnl (fun _ => 1))) l : Nat))))] := by
  refine Sound.of X Tryz.call30 Tryz.func30 rfl rfl (by decide) Tryz.ntmps30 (by simp) ?_
  intro zb
  refine W.bound 0 rfl fun hl => ?_
  rw [mkl_len] at hl
  refine W.seq ?_
  refine W.reg X [] [] [0, 1] [] rfl ⟨⟩ ?_
  refine W.seq ?_
  refine W.seq ?_
  refine W.reg X [] [] [0, 1, 5] [] rfl ⟨⟩ ?_
  refine W.block ?_
  refine W.loopO (fun k => k ≤ l.length) (fun k : Nat => [(1, .one (.a (.lit (.int .i64 (k0 + (mnl (mnl (fun _ => 1)) (l.take k) : Nat)))))), (5, .one (.a (.lit (.int .i64 k))))]) (fun k => []) (fun k => l.length - k) 0 (fun k => rfl) (Nat.zero_le _) (by simp [mnl]) ?_
  intro k hk
  refine W.seq ?_
  refine W.seq ?_
  refine W.reg X [] [] [0, 1, 5, 9] [] rfl ⟨⟩ ?_
  refine W.cond rfl (fun hb0 => ?_) (fun hb0 => ?_)
  · rw [mkl_len] at hb0
    try simp only [nb] at hb0
    have hg := mkl_getD (mk := (mkl (fun k _ => k) (fun _ => 1))) (mn := (mnl (fun _ => 1))) (k := k0) (d := dfl (.sl .int)) hb0
    have hms := mnl_step (mn := (mnl (fun _ => 1))) l (dfl (.sl .int)) k hb0
    have hml := mnl_le (mn := (mnl (fun _ => 1))) l (k + 1)
    have hlen : (mkl (mkl (fun k _ => k) (fun _ => 1)) (mnl (fun _ => 1)) k0 l).length = l.length := mkl_len
    generalize l.getD k (dfl (.sl .int)) = e at hg hms
    refine W.skip ?_
    refine W.seq ?_
    refine W.block ?_
    refine W.seq ?_
    refine W.reg X [] [(17, ⟨false, [.a (.lit (.int .i64 ((k0 + (mnl (mnl (fun _ => 1)) (l.take k) : Nat)) + ((mnl (fun _ => 1)) e : Nat))))]⟩)] [0, 1, 5] [] rfl (by (repeat' (first | exact True.intro | exact c_heldIntS e ((k0 + (mnl (mnl (fun _ => 1)) (l.take k) : Nat))) (by omega) (by omega) | (simp only [Int.toNat_natCast, hg]; exact c_heldIntS e ((k0 + (mnl (mnl (fun _ => 1)) (l.take k) : Nat))) (by omega) (by omega)) | apply And.intro)) <;> first | (intros; omega) | exact rfl | exact El_all _ (by decide) | exact ⟨rfl, El_all _ (by decide)⟩ | ((intro h1; first | (intro h2; first | (intro h3; refine And.intro ?_ ?_) | refine And.intro ?_ ?_) | refine And.intro ?_ ?_) <;> first | omega | ((try simp only [nb, inr_t, inr_f] at *); (try simp (disch := omega) only [i64w]); omega)) | ((try simp only [nb, inr_t, inr_f] at *); (simp (disch := omega) only [i64w]); omega) | (refine fun _ => ?_; dsimp only [hyps, imps]; omega) | (refine fun _ _ => ?_; dsimp only [hyps, imps]; omega) | exact (u8w _).1 | exact (u8w _).2 | exact (u8n _).1 | exact (u8n _).2 | (simp only [byt, maxLen, lens]; omega) | (intros; simp only [nb] at *; omega)) ?_
    refine W.seq ?_
    refine W.reg X [] [] [0, 1, 5, 19] [] rfl ⟨⟩ ?_
    refine W.cond rfl (fun hb1 => ?_) (fun hb1 => ?_)
    · exact absurd hb1 (by first | (simp only [decide_eq_true_eq]; omega) | (simp only [Int.toNat_natCast, hg]; simp; done) | (simp only [Int.toNat_natCast, hg, mku8, u8_rt]; simp))
    · clear hb1
      refine W.skip ?_
      refine W.reg X [] [] [0, 1, 5] [] rfl ⟨⟩ ?_
      refine ⟨k + 1, by omega, by omega, ?_⟩
      rw [wadd _ k rfl (by omega), show (k0 + (mnl (mnl (fun _ => 1)) (l.take k) : Nat)) + ((mnl (fun _ => 1)) e : Nat) = k0 + (mnl (mnl (fun _ => 1)) (l.take (k + 1)) : Nat) by omega]
      try rfl
  · rw [mkl_len] at hb0
    try simp only [nb] at hb0
    refine W.exit ?_
    refine W.seq ?_
    refine W.reg X [] [] [4] [] rfl ⟨⟩ ?_
    refine W.ret ?_
    exact Fin.ret rfl ⟨by rw [List.take_of_length_le (by omega)], ⟨⟩⟩
theorem c_heldReceiptS (l : (List Rcp)) (k0 : Int) (h0 : 0 ≤ k0) (h1 : k0 + ((mnl mne_Rcp) l : Nat) ≤ 1099511627776) : Sound ty Tryz.prog 53 [.a (.sl .Rcp ((mkl mke_Rcp mne_Rcp) k0 l)), .a (.lit (.int .i64 k0))] [.a (.lit (.int .i64 (k0 + ((mnl mne_Rcp) l : Nat))))] := by
  refine Sound.of X Tryz.call53 Tryz.func53 rfl rfl (by decide) Tryz.ntmps53 (by simp) ?_
  intro zb
  refine W.bound 0 rfl fun hl => ?_
  rw [mkl_len] at hl
  refine W.seq ?_
  refine W.reg X [] [] [0, 1] [] rfl ⟨⟩ ?_
  refine W.seq ?_
  refine W.seq ?_
  refine W.reg X [] [] [0, 1, 5] [] rfl ⟨⟩ ?_
  refine W.block ?_
  refine W.loopO (fun k => k ≤ l.length) (fun k : Nat => [(1, .one (.a (.lit (.int .i64 (k0 + (mnl mne_Rcp (l.take k) : Nat)))))), (5, .one (.a (.lit (.int .i64 k))))]) (fun k => []) (fun k => l.length - k) 0 (fun k => rfl) (Nat.zero_le _) (by simp [mnl]) ?_
  intro k hk
  refine W.seq ?_
  refine W.seq ?_
  refine W.reg X [] [] [0, 1, 5, 9] [] rfl ⟨⟩ ?_
  refine W.cond rfl (fun hb0 => ?_) (fun hb0 => ?_)
  · rw [mkl_len] at hb0
    try simp only [nb] at hb0
    have hg := mkl_getD (mk := mke_Rcp) (mn := mne_Rcp) (k := k0) (d := dfl .Rcp) hb0
    have hms := mnl_step (mn := mne_Rcp) l (dfl .Rcp) k hb0
    have hml := mnl_le (mn := mne_Rcp) l (k + 1)
    have hlen : (mkl mke_Rcp mne_Rcp k0 l).length = l.length := mkl_len
    generalize l.getD k (dfl .Rcp) = e at hg hms
    simp only [mne_Rcp] at hms
    simp only [mke_Rcp] at hg
    refine W.skip ?_
    refine W.seq ?_
    refine W.block ?_
    refine W.seq ?_
    refine W.seq ?_
    refine W.reg X [] [] [0, 1, 5, 18] [] rfl (by (repeat' (first | exact True.intro | apply And.intro)) <;> first | (intros; omega) | exact rfl | exact El_all _ (by decide) | exact ⟨rfl, El_all _ (by decide)⟩ | ((intro h1; first | (intro h2; first | (intro h3; refine And.intro ?_ ?_) | refine And.intro ?_ ?_) | refine And.intro ?_ ?_) <;> first | omega | ((try simp only [nb, inr_t, inr_f] at *); (try simp (disch := omega) only [i64w]); omega)) | ((try simp only [nb, inr_t, inr_f] at *); (simp (disch := omega) only [i64w]); omega) | (refine fun _ => ?_; dsimp only [hyps, imps]; omega) | (refine fun _ _ => ?_; dsimp only [hyps, imps]; omega) | exact (u8w _).1 | exact (u8w _).2 | exact (u8n _).1 | exact (u8n _).2 | (simp only [byt, maxLen, lens]; omega) | (intros; simp only [nb] at *; omega)) ?_
    refine W.cond rfl (fun hb1 => ?_) (fun hb1 => ?_)
    · exact absurd hb1 (by first | (simp only [decide_eq_true_eq]; omega) | (simp only [Int.toNat_natCast, hg]; simp; done) | (simp only [Int.toNat_natCast, hg, mku8, u8_rt]; simp))
    · clear hb1
      refine W.skip ?_
      refine W.seq ?_
      refine W.reg X [] [] [0, 1, 5] [] rfl ⟨⟩ ?_
      rw [IntWalk.i64_in ((k0 + (mnl mne_Rcp (l.take k) : Nat)) + 1) (by omega)]
      refine W.seq ?_
      refine W.seq ?_
      refine W.reg X [] [] [0, 1, 5, 27] [] rfl (by (repeat' (first | exact True.intro | apply And.intro)) <;> first | (intros; omega) | exact rfl | exact El_all _ (by decide) | exact ⟨rfl, El_all _ (by decide)⟩ | ((intro h1; first | (intro h2; first | (intro h3; refine And.intro ?_ ?_) | refine And.intro ?_ ?_) | refine And.intro ?_ ?_) <;> first | omega | ((try simp only [nb, inr_t, inr_f] at *); (try simp (disch := omega) only [i64w]); omega)) | ((try simp only [nb, inr_t, inr_f] at *); (simp (disch := omega) only [i64w]); omega) | (refine fun _ => ?_; dsimp only [hyps, imps]; omega) | (refine fun _ _ => ?_; dsimp only [hyps, imps]; omega) | exact (u8w _).1 | exact (u8w _).2 | exact (u8n _).1 | exact (u8n _).2 | (simp only [byt, maxLen, lens]; omega) | (intros; simp only [nb] at *; omega)) ?_
      refine W.cond rfl (fun hb2 => ?_) (fun hb2 => ?_)
      · exact absurd hb2 (by first | (simp only [decide_eq_true_eq]; omega) | (simp only [Int.toNat_natCast, hg]; simp; done) | (simp only [Int.toNat_natCast, hg, mku8, u8_rt]; simp))
      · clear hb2
        refine W.skip ?_
        refine W.seq ?_
        refine W.reg X [] [] [0, 1, 5] [] rfl ⟨⟩ ?_
        rw [IntWalk.i64_in ((k0 + (mnl mne_Rcp (l.take k) : Nat)) + 1 + 1) (by omega)]
        refine W.seq ?_
        refine W.seq ?_
        refine W.reg X [] [] [0, 1, 5, 36] [] rfl (by (repeat' (first | exact True.intro | apply And.intro)) <;> first | (intros; omega) | exact rfl | exact El_all _ (by decide) | exact ⟨rfl, El_all _ (by decide)⟩ | ((intro h1; first | (intro h2; first | (intro h3; refine And.intro ?_ ?_) | refine And.intro ?_ ?_) | refine And.intro ?_ ?_) <;> first | omega | ((try simp only [nb, inr_t, inr_f] at *); (try simp (disch := omega) only [i64w]); omega)) | ((try simp only [nb, inr_t, inr_f] at *); (simp (disch := omega) only [i64w]); omega) | (refine fun _ => ?_; dsimp only [hyps, imps]; omega) | (refine fun _ _ => ?_; dsimp only [hyps, imps]; omega) | exact (u8w _).1 | exact (u8w _).2 | exact (u8n _).1 | exact (u8n _).2 | (simp only [byt, maxLen, lens]; omega) | (intros; simp only [nb] at *; omega)) ?_
        refine W.cond rfl (fun hb3 => ?_) (fun hb3 => ?_)
        · exact absurd hb3 (by first | (simp only [decide_eq_true_eq]; omega) | (simp only [Int.toNat_natCast, hg]; simp; done) | (simp only [Int.toNat_natCast, hg, mku8, u8_rt]; simp))
        · clear hb3
          refine W.skip ?_
          refine W.seq ?_
          refine W.reg X [] [] [0, 1, 5] [] rfl ⟨⟩ ?_
          rw [IntWalk.i64_in ((k0 + (mnl mne_Rcp (l.take k) : Nat)) + 1 + 1 + 1) (by omega)]
          refine W.seq ?_
          refine W.seq ?_
          refine W.reg X [] [] [0, 1, 5, 45] [] rfl (by (repeat' (first | exact True.intro | apply And.intro)) <;> first | (intros; omega) | exact rfl | exact El_all _ (by decide) | exact ⟨rfl, El_all _ (by decide)⟩ | ((intro h1; first | (intro h2; first | (intro h3; refine And.intro ?_ ?_) | refine And.intro ?_ ?_) | refine And.intro ?_ ?_) <;> first | omega | ((try simp only [nb, inr_t, inr_f] at *); (try simp (disch := omega) only [i64w]); omega)) | ((try simp only [nb, inr_t, inr_f] at *); (simp (disch := omega) only [i64w]); omega) | (refine fun _ => ?_; dsimp only [hyps, imps]; omega) | (refine fun _ _ => ?_; dsimp only [hyps, imps]; omega) | exact (u8w _).1 | exact (u8w _).2 | exact (u8n _).1 | exact (u8n _).2 | (simp only [byt, maxLen, lens]; omega) | (intros; simp only [nb] at *; omega)) ?_
          refine W.cond rfl (fun hb4 => ?_) (fun hb4 => ?_)
          · exact absurd hb4 (by first | (simp only [decide_eq_true_eq]; omega) | (simp only [Int.toNat_natCast, hg]; simp; done) | (simp only [Int.toNat_natCast, hg, mku8, u8_rt]; simp))
          · clear hb4
            refine W.skip ?_
            refine W.seq ?_
            refine W.reg X [] [] [0, 1, 5] [] rfl ⟨⟩ ?_
            rw [IntWalk.i64_in ((k0 + (mnl mne_Rcp (l.take k) : Nat)) + 1 + 1 + 1 + 1) (by omega)]
            refine W.seq ?_
            refine W.seq ?_
            refine W.reg X [] [] [0, 1, 5, 54] [] rfl (by (repeat' (first | exact True.intro | apply And.intro)) <;> first | (intros; omega) | exact rfl | exact El_all _ (by decide) | exact ⟨rfl, El_all _ (by decide)⟩ | ((intro h1; first | (intro h2; first | (intro h3; refine And.intro ?_ ?_) | refine And.intro ?_ ?_) | refine And.intro ?_ ?_) <;> first | omega | ((try simp only [nb, inr_t, inr_f] at *); (try simp (disch := omega) only [i64w]); omega)) | ((try simp only [nb, inr_t, inr_f] at *); (simp (disch := omega) only [i64w]); omega) | (refine fun _ => ?_; dsimp only [hyps, imps]; omega) | (refine fun _ _ => ?_; dsimp only [hyps, imps]; omega) | exact (u8w _).1 | exact (u8w _).2 | exact (u8n _).1 | exact (u8n _).2 | (simp only [byt, maxLen, lens]; omega) | (intros; simp only [nb] at *; omega)) ?_
            refine W.cond rfl (fun hb5 => ?_) (fun hb5 => ?_)
            · exact absurd hb5 (by first | (simp only [decide_eq_true_eq]; omega) | (simp only [Int.toNat_natCast, hg]; simp; done) | (simp only [Int.toNat_natCast, hg, mku8, u8_rt]; simp))
            · clear hb5
              refine W.skip ?_
              refine W.reg X [] [] [0, 1, 5] [] rfl ⟨⟩ ?_
              rw [IntWalk.i64_in ((k0 + (mnl mne_Rcp (l.take k) : Nat)) + 1 + 1 + 1 + 1 + 1) (by omega)]
              refine W.reg X [] [] [0, 1, 5] [] rfl ⟨⟩ ?_
              refine ⟨k + 1, by omega, by omega, ?_⟩
              rw [wadd _ k rfl (by omega), show (k0 + (mnl mne_Rcp (l.take k) : Nat)) + 1 + 1 + 1 + 1 + 1 = k0 + (mnl mne_Rcp (l.take (k + 1)) : Nat) by omega]
              try rfl
  · rw [mkl_len] at hb0
    try simp only [nb] at hb0
    refine W.exit ?_
    refine W.seq ?_
    refine W.reg X [] [] [4] [] rfl ⟨⟩ ?_
    refine W.ret ?_
    exact Fin.ret rfl ⟨by rw [List.take_of_length_le (by omega)], ⟨⟩⟩
theorem c_heldReceivedShareS (l : (List RShare)) (k0 : Int) (h0 : 0 ≤ k0) (h1 : k0 + ((mnl mne_RShare) l : Nat) ≤ 1099511627776) : Sound ty Tryz.prog 111 [.a (.sl .RShare ((mkl mke_RShare mne_RShare) k0 l)), .a (.lit (.int .i64 k0))] [.a (.lit (.int .i64 (k0 + ((mnl mne_RShare) l : Nat))))] := by
  refine Sound.of X Tryz.call111 Tryz.func111 rfl rfl (by decide) Tryz.ntmps111 (by simp) ?_
  intro zb
  refine W.bound 0 rfl fun hl => ?_
  rw [mkl_len] at hl
  refine W.seq ?_
  refine W.reg X [] [] [0, 1] [] rfl ⟨⟩ ?_
  refine W.seq ?_
  refine W.seq ?_
  refine W.reg X [] [] [0, 1, 5] [] rfl ⟨⟩ ?_
  refine W.block ?_
  refine W.loopO (fun k => k ≤ l.length) (fun k : Nat => [(1, .one (.a (.lit (.int .i64 (k0 + (mnl mne_RShare (l.take k) : Nat)))))), (5, .one (.a (.lit (.int .i64 k))))]) (fun k => []) (fun k => l.length - k) 0 (fun k => rfl) (Nat.zero_le _) (by simp [mnl]) ?_
  intro k hk
  refine W.seq ?_
  refine W.seq ?_
  refine W.reg X [] [] [0, 1, 5, 9] [] rfl ⟨⟩ ?_
  refine W.cond rfl (fun hb0 => ?_) (fun hb0 => ?_)
  · rw [mkl_len] at hb0
    try simp only [nb] at hb0
    have hg := mkl_getD (mk := mke_RShare) (mn := mne_RShare) (k := k0) (d := dfl .RShare) hb0
    have hms := mnl_step (mn := mne_RShare) l (dfl .RShare) k hb0
    have hml := mnl_le (mn := mne_RShare) l (k + 1)
    have hlen : (mkl mke_RShare mne_RShare k0 l).length = l.length := mkl_len
    generalize l.getD k (dfl .RShare) = e at hg hms
    simp only [mne_RShare, mne_DB] at hms
    simp only [mke_RShare, mke_DB] at hg
    refine W.skip ?_
    refine W.seq ?_
    refine W.block ?_
    refine W.seq ?_
    refine W.seq ?_
    refine W.reg X [] [] [0, 1, 5, 18] [] rfl (by (repeat' (first | exact True.intro | apply And.intro)) <;> first | (intros; omega) | exact rfl | exact El_all _ (by decide) | exact ⟨rfl, El_all _ (by decide)⟩ | ((intro h1; first | (intro h2; first | (intro h3; refine And.intro ?_ ?_) | refine And.intro ?_ ?_) | refine And.intro ?_ ?_) <;> first | omega | ((try simp only [nb, inr_t, inr_f] at *); (try simp (disch := omega) only [i64w]); omega)) | ((try simp only [nb, inr_t, inr_f] at *); (simp (disch := omega) only [i64w]); omega) | (refine fun _ => ?_; dsimp only [hyps, imps]; omega) | (refine fun _ _ => ?_; dsimp only [hyps, imps]; omega) | exact (u8w _).1 | exact (u8w _).2 | exact (u8n _).1 | exact (u8n _).2 | (simp only [byt, maxLen, lens]; omega) | (intros; simp only [nb] at *; omega)) ?_
    refine W.cond rfl (fun hb1 => ?_) (fun hb1 => ?_)
    · exact absurd hb1 (by first | (simp only [decide_eq_true_eq]; omega) | (simp only [Int.toNat_natCast, hg]; simp; done) | (simp only [Int.toNat_natCast, hg, mku8, u8_rt]; simp))
    · clear hb1
      refine W.skip ?_
      refine W.seq ?_
      refine W.reg X [] [] [0, 1, 5] [] rfl ⟨⟩ ?_
      rw [IntWalk.i64_in ((k0 + (mnl mne_RShare (l.take k) : Nat)) + 1) (by omega)]
      refine W.seq ?_
      refine W.reg X [] [(28, ⟨false, [.a (.lit (.int .i64 ((k0 + (mnl mne_RShare (l.take k) : Nat)) + 1 + ((mnl (mnl (fun _ => 1))) e.share.rows : Nat))))]⟩)] [0, 1, 5] [] rfl (by (repeat' (first | exact True.intro | exact c_heldByteSS e.share.rows ((k0 + (mnl mne_RShare (l.take k) : Nat)) + 1) (by omega) (by omega) | (simp only [Int.toNat_natCast, hg]; exact c_heldByteSS e.share.rows ((k0 + (mnl mne_RShare (l.take k) : Nat)) + 1) (by omega) (by omega)) | apply And.intro)) <;> first | (intros; omega) | exact rfl | exact El_all _ (by decide) | exact ⟨rfl, El_all _ (by decide)⟩ | ((intro h1; first | (intro h2; first | (intro h3; refine And.intro ?_ ?_) | refine And.intro ?_ ?_) | refine And.intro ?_ ?_) <;> first | omega | ((try simp only [nb, inr_t, inr_f] at *); (try simp (disch := omega) only [i64w]); omega)) | ((try simp only [nb, inr_t, inr_f] at *); (simp (disch := omega) only [i64w]); omega) | (refine fun _ => ?_; dsimp only [hyps, imps]; omega) | (refine fun _ _ => ?_; dsimp only [hyps, imps]; omega) | exact (u8w _).1 | exact (u8w _).2 | exact (u8n _).1 | exact (u8n _).2 | (simp only [byt, maxLen, lens]; omega) | (intros; simp only [nb] at *; omega)) ?_
      refine W.seq ?_
      refine W.reg X [] [] [0, 1, 5, 30] [] rfl ⟨⟩ ?_
      refine W.cond rfl (fun hb2 => ?_) (fun hb2 => ?_)
      · exact absurd hb2 (by first | (simp only [decide_eq_true_eq]; omega) | (simp only [Int.toNat_natCast, hg]; simp; done) | (simp only [Int.toNat_natCast, hg, mku8, u8_rt]; simp))
      · clear hb2
        refine W.skip ?_
        refine W.reg X [] [] [0, 1, 5] [] rfl ⟨⟩ ?_
        refine ⟨k + 1, by omega, by omega, ?_⟩
        rw [wadd _ k rfl (by omega), show (k0 + (mnl mne_RShare (l.take k) : Nat)) + 1 + ((mnl (mnl (fun _ => 1))) e.share.rows : Nat) = k0 + (mnl mne_RShare (l.take (k + 1)) : Nat) by omega]
        try rfl
  · rw [mkl_len] at hb0
    try simp only [nb] at hb0
    refine W.exit ?_
    refine W.seq ?_
    refine W.reg X [] [] [4] [] rfl ⟨⟩ ?_
    refine W.ret ?_
    exact Fin.ret rfl ⟨by rw [List.take_of_length_le (by omega)], ⟨⟩⟩
theorem c_heldServerS (l : (List Srv)) (k0 : Int) (h0 : 0 ≤ k0) (h1 : k0 + ((mnl mne_Srv) l : Nat) ≤ 1099511627776) : Sound ty Tryz.prog 52 [.a (.sl .Srv ((mkl mke_Srv mne_Srv) k0 l)), .a (.lit (.int .i64 k0))] [.a (.lit (.int .i64 (k0 + ((mnl mne_Srv) l : Nat))))] := by
  refine Sound.of X Tryz.call52 Tryz.func52 rfl rfl (by decide) Tryz.ntmps52 (by simp) ?_
  intro zb
  refine W.bound 0 rfl fun hl => ?_
  rw [mkl_len] at hl
  refine W.seq ?_
  refine W.reg X [] [] [0, 1] [] rfl ⟨⟩ ?_
  refine W.seq ?_
  refine W.seq ?_
  refine W.reg X [] [] [0, 1, 5] [] rfl ⟨⟩ ?_
  refine W.block ?_
  refine W.loopO (fun k => k ≤ l.length) (fun k : Nat => [(1, .one (.a (.lit (.int .i64 (k0 + (mnl mne_Srv (l.take k) : Nat)))))), (5, .one (.a (.lit (.int .i64 k))))]) (fun k => []) (fun k => l.length - k) 0 (fun k => rfl) (Nat.zero_le _) (by simp [mnl]) ?_
  intro k hk
  refine W.seq ?_
  refine W.seq ?_
  refine W.reg X [] [] [0, 1, 5, 9] [] rfl ⟨⟩ ?_
  refine W.cond rfl (fun hb0 => ?_) (fun hb0 => ?_)
  · rw [mkl_len] at hb0
    try simp only [nb] at hb0
    have hg := mkl_getD (mk := mke_Srv) (mn := mne_Srv) (k := k0) (d := dfl .Srv) hb0
    have hms := mnl_step (mn := mne_Srv) l (dfl .Srv) k hb0
    have hml := mnl_le (mn := mne_Srv) l (k + 1)
    have hlen : (mkl mke_Srv mne_Srv k0 l).length = l.length := mkl_len
    generalize l.getD k (dfl .Srv) = e at hg hms
    simp only [mne_Srv] at hms
    simp only [mke_Srv] at hg
    refine W.skip ?_
    refine W.seq ?_
    refine W.block ?_
    refine W.seq ?_
    refine W.seq ?_
    refine W.reg X [] [] [0, 1, 5, 18] [] rfl (by (repeat' (first | exact True.intro | apply And.intro)) <;> first | (intros; omega) | exact rfl | exact El_all _ (by decide) | exact ⟨rfl, El_all _ (by decide)⟩ | ((intro h1; first | (intro h2; first | (intro h3; refine And.intro ?_ ?_) | refine And.intro ?_ ?_) | refine And.intro ?_ ?_) <;> first | omega | ((try simp only [nb, inr_t, inr_f] at *); (try simp (disch := omega) only [i64w]); omega)) | ((try simp only [nb, inr_t, inr_f] at *); (simp (disch := omega) only [i64w]); omega) | (refine fun _ => ?_; dsimp only [hyps, imps]; omega) | (refine fun _ _ => ?_; dsimp only [hyps, imps]; omega) | exact (u8w _).1 | exact (u8w _).2 | exact (u8n _).1 | exact (u8n _).2 | (simp only [byt, maxLen, lens]; omega) | (intros; simp only [nb] at *; omega)) ?_
    refine W.cond rfl (fun hb1 => ?_) (fun hb1 => ?_)
    · exact absurd hb1 (by first | (simp only [decide_eq_true_eq]; omega) | (simp only [Int.toNat_natCast, hg]; simp; done) | (simp only [Int.toNat_natCast, hg, mku8, u8_rt]; simp))
    · clear hb1
      refine W.skip ?_
      refine W.seq ?_
      refine W.reg X [] [] [0, 1, 5] [] rfl ⟨⟩ ?_
      rw [IntWalk.i64_in ((k0 + (mnl mne_Srv (l.take k) : Nat)) + 1) (by omega)]
      refine W.seq ?_
      refine W.seq ?_
      refine W.reg X [] [] [0, 1, 5, 27] [] rfl (by (repeat' (first | exact True.intro | apply And.intro)) <;> first | (intros; omega) | exact rfl | exact El_all _ (by decide) | exact ⟨rfl, El_all _ (by decide)⟩ | ((intro h1; first | (intro h2; first | (intro h3; refine And.intro ?_ ?_) | refine And.intro ?_ ?_) | refine And.intro ?_ ?_) <;> first | omega | ((try simp only [nb, inr_t, inr_f] at *); (try simp (disch := omega) only [i64w]); omega)) | ((try simp only [nb, inr_t, inr_f] at *); (simp (disch := omega) only [i64w]); omega) | (refine fun _ => ?_; dsimp only [hyps, imps]; omega) | (refine fun _ _ => ?_; dsimp only [hyps, imps]; omega) | exact (u8w _).1 | exact (u8w _).2 | exact (u8n _).1 | exact (u8n _).2 | (simp only [byt, maxLen, lens]; omega) | (intros; simp only [nb] at *; omega)) ?_
      refine W.cond rfl (fun hb2 => ?_) (fun hb2 => ?_)
      · exact absurd hb2 (by first | (simp only [decide_eq_true_eq]; omega) | (simp only [Int.toNat_natCast, hg]; simp; done) | (simp only [Int.toNat_natCast, hg, mku8, u8_rt]; simp))
      · clear hb2
        refine W.skip ?_
        refine W.seq ?_
        refine W.reg X [] [] [0, 1, 5] [] rfl ⟨⟩ ?_
        rw [IntWalk.i64_in ((k0 + (mnl mne_Srv (l.take k) : Nat)) + 1 + 1) (by omega)]
        refine W.seq ?_
        refine W.seq ?_
        refine W.reg X [] [] [0, 1, 5, 36] [] rfl (by (repeat' (first | exact True.intro | apply And.intro)) <;> first | (intros; omega) | exact rfl | exact El_all _ (by decide) | exact ⟨rfl, El_all _ (by decide)⟩ | ((intro h1; first | (intro h2; first | (intro h3; refine And.intro ?_ ?_) | refine And.intro ?_ ?_) | refine And.intro ?_ ?_) <;> first | omega | ((try simp only [nb, inr_t, inr_f] at *); (try simp (disch := omega) only [i64w]); omega)) | ((try simp only [nb, inr_t, inr_f] at *); (simp (disch := omega) only [i64w]); omega) | (refine fun _ => ?_; dsimp only [hyps, imps]; omega) | (refine fun _ _ => ?_; dsimp only [hyps, imps]; omega) | exact (u8w _).1 | exact (u8w _).2 | exact (u8n _).1 | exact (u8n _).2 | (simp only [byt, maxLen, lens]; omega) | (intros; simp only [nb] at *; omega)) ?_
        refine W.cond rfl (fun hb3 => ?_) (fun hb3 => ?_)
        · exact absurd hb3 (by first | (simp only [decide_eq_true_eq]; omega) | (simp only [Int.toNat_natCast, hg]; simp; done) | (simp only [Int.toNat_natCast, hg, mku8, u8_rt]; simp))
        · clear hb3
          refine W.skip ?_
          refine W.seq ?_
          refine W.reg X [] [] [0, 1, 5] [] rfl ⟨⟩ ?_
          rw [IntWalk.i64_in ((k0 + (mnl mne_Srv (l.take k) : Nat)) + 1 + 1 + 1) (by omega)]
          refine W.seq ?_
          refine W.reg X [] [(45, ⟨false, [.a (.lit (.int .i64 ((k0 + (mnl mne_Srv (l.take k) : Nat)) + 1 + 1 + 1 + ((mnl mne_RShare) e.received : Nat))))]⟩)] [0, 1, 5] [] rfl (by (repeat' (first | exact True.intro | exact c_heldReceivedShareS e.received ((k0 + (mnl mne_Srv (l.take k) : Nat)) + 1 + 1 + 1) (by omega) (by omega) | (simp only [Int.toNat_natCast, hg]; exact c_heldReceivedShareS e.received ((k0 + (mnl mne_Srv (l.take k) : Nat)) + 1 + 1 + 1) (by omega) (by omega)) | apply And.intro)) <;> first | (intros; omega) | exact rfl | exact El_all _ (by decide) | exact ⟨rfl, El_all _ (by decide)⟩ | ((intro h1; first | (intro h2; first | (intro h3; refine And.intro ?_ ?_) | refine And.intro ?_ ?_) | refine And.intro ?_ ?_) <;> first | omega | ((try simp only [nb, inr_t, inr_f] at *); (try simp (disch := omega) only [i64w]); omega)) | ((try simp only [nb, inr_t, inr_f] at *); (simp (disch := omega) only [i64w]); omega) | (refine fun _ => ?_; dsimp only [hyps, imps]; omega) | (refine fun _ _ => ?_; dsimp only [hyps, imps]; omega) | exact (u8w _).1 | exact (u8w _).2 | exact (u8n _).1 | exact (u8n _).2 | (simp only [byt, maxLen, lens]; omega) | (intros; simp only [nb] at *; omega)) ?_
          refine W.seq ?_
          refine W.seq ?_
          refine W.reg X [] [] [0, 1, 5, 47] [] rfl ⟨⟩ ?_
          refine W.cond rfl (fun hb4 => ?_) (fun hb4 => ?_)
          · exact absurd hb4 (by first | (simp only [decide_eq_true_eq]; omega) | (simp only [Int.toNat_natCast, hg]; simp; done) | (simp only [Int.toNat_natCast, hg, mku8, u8_rt]; simp))
          · clear hb4
            refine W.skip ?_
            refine W.seq ?_
            refine W.seq ?_
            refine W.reg X [] [] [0, 1, 5, 54] [] rfl (by (repeat' (first | exact True.intro | apply And.intro)) <;> first | (intros; omega) | exact rfl | exact El_all _ (by decide) | exact ⟨rfl, El_all _ (by decide)⟩ | ((intro h1; first | (intro h2; first | (intro h3; refine And.intro ?_ ?_) | refine And.intro ?_ ?_) | refine And.intro ?_ ?_) <;> first | omega | ((try simp only [nb, inr_t, inr_f] at *); (try simp (disch := omega) only [i64w]); omega)) | ((try simp only [nb, inr_t, inr_f] at *); (simp (disch := omega) only [i64w]); omega) | (refine fun _ => ?_; dsimp only [hyps, imps]; omega) | (refine fun _ _ => ?_; dsimp only [hyps, imps]; omega) | exact (u8w _).1 | exact (u8w _).2 | exact (u8n _).1 | exact (u8n _).2 | (simp only [byt, maxLen, lens]; omega) | (intros; simp only [nb] at *; omega)) ?_
            refine W.cond rfl (fun hb5 => ?_) (fun hb5 => ?_)
            · exact absurd hb5 (by first | (simp only [decide_eq_true_eq]; omega) | (simp only [Int.toNat_natCast, hg]; simp; done) | (simp only [Int.toNat_natCast, hg, mku8, u8_rt]; simp))
            · clear hb5
              refine W.skip ?_
              refine W.reg X [] [] [0, 1, 5] [] rfl ⟨⟩ ?_
              rw [IntWalk.i64_in ((k0 + (mnl mne_Srv (l.take k) : Nat)) + 1 + 1 + 1 + ((mnl mne_RShare) e.received : Nat) + 1) (by omega)]
              refine W.reg X [] [] [0, 1, 5] [] rfl ⟨⟩ ?_
              refine ⟨k + 1, by omega, by omega, ?_⟩
              rw [wadd _ k rfl (by omega), show (k0 + (mnl mne_Srv (l.take k) : Nat)) + 1 + 1 + 1 + ((mnl mne_RShare) e.received : Nat) + 1 = k0 + (mnl mne_Srv (l.take (k + 1)) : Nat) by omega]
              try rfl
  · rw [mkl_len] at hb0
    try simp only [nb] at hb0
    refine W.exit ?_
    refine W.seq ?_
    refine W.reg X [] [] [4] [] rfl ⟨⟩ ?_
    refine W.ret ?_
    exact Fin.ret rfl ⟨by rw [List.take_of_length_le (by omega)], ⟨⟩⟩
end Go.Proofs.YtlocnjfgeifmnaaGreat.G
namespace Go.Proofs.YtlocnjfgeifmnaaGreat.G
set_option linter.all false
open Go.RowKit L D
theorem i64w {a : Int} (h : -9223372036854775808 ≤ a ∧ a ≤ 9223372036854775807) : IntKind.i64.wrap a = a := IntWalk.i64_in _ (by omega)
theorem u8w_eq (n : Int) : IntKind.u8.wrap n = n % 256 := by
  unfold IntKind.wrap
  simp only [IntKind.signed, IntKind.bits]
  simp
/-- An integer's lowest byte. -/
def b8 (n : Int) : UInt8 := UInt8.ofNat (IntKind.u8.wrap n).toNat
theorem b8_toNat (n : Int) : ((b8 n).toNat : Int) = n % 256 := by unfold b8; rw [u8_rt, u8w_eq]
theorem u8_ext {x y : UInt8} (h : (x.toNat : Int) = y.toNat) : x = y := u8_inj h
theorem ofNat_toNat (n : Int) (h0 : 0 ≤ n) (h1 : n < 256) : ((UInt8.ofNat n.toNat).toNat : Int) = n := by
  simp; omega
theorem ofNat_eq {n : Int} {x : UInt8} (h0 : 0 ≤ n) (h1 : n < 256) (h : n = x.toNat) : UInt8.ofNat n.toNat = x := by
  apply u8_ext; rw [ofNat_toNat n h0 h1, h]
theorem b8_congr {a b : Int} (h : a % 256 = b % 256) : b8 a = b8 b := by
  apply u8_ext; rw [b8_toNat, b8_toNat, h]
theorem b8_self (x : UInt8) : b8 x.toNat = x := by
  apply u8_ext; rw [b8_toNat]; have := x.toNat_lt; omega
theorem tmod_pos {a b : Int} (h : 0 ≤ a) : a.tmod b = a % b := Int.tmod_eq_emod_of_nonneg h
theorem tdiv_pos {a b : Int} (h : 0 ≤ a) : a.tdiv b = a / b := Int.tdiv_eq_ediv_of_nonneg h
/-- Go's remainder, made positive. -/
theorem md_eq (p q : Int) (h1 : 1 ≤ q) (h2 : q ≤ 1000000000000) : (IntKind.i64.wrap (p.tmod q + q)).tmod q = p % q := by
  have hb : -q < p.tmod q ∧ p.tmod q < q := ⟨Int.lt_tmod_of_pos p (by omega), Int.tmod_lt_of_pos p (by omega)⟩
  rw [i64w (by omega), tmod_pos (by omega), Int.add_emod_right]
  rcases Int.le_total 0 p with h | h
  · rw [tmod_pos h, Int.emod_emod_of_dvd _ (Int.dvd_refl q)]
  · have e : p.tmod q = p - q * p.tdiv q := by have := Int.tmod_add_mul_tdiv p q; omega
    rw [e, Int.sub_mul_emod_self_left]
def hs1 (h v : Int) : Int := (h * 1000003 + v % 2147483647 + 13) % 2147483647
def hsh (l : List Int) : Int := l.foldl hs1 11
def kh (k : Int) (l : List Int) : Int := hsh (k :: (l ++ [k]))
theorem hs1_range (h v : Int) : 0 ≤ hs1 h v ∧ hs1 h v < 2147483647 := ⟨Int.emod_nonneg _ (by decide), Int.emod_lt_of_pos _ (by decide)⟩
theorem foldl_snoc {α β : Type} (f : β → α → β) (b : β) (l : List α) (k : Nat) (d : α) (h : k < l.length) : (l.take (k + 1)).foldl f b = f ((l.take k).foldl f b) (l.getD k d) := by
  rw [take_snoc l k d h, List.foldl_append]; rfl
theorem hsh_range : ∀ l : List Int, 0 ≤ hsh l ∧ hsh l < 2147483647 := by
  have g : ∀ (l : List Int) (a : Int), (0 ≤ a ∧ a < 2147483647) → 0 ≤ l.foldl hs1 a ∧ l.foldl hs1 a < 2147483647 := by
    intro l
    induction l with
    | nil => intro a h; exact h
    | cons x r ih => intro a _; exact ih _ (hs1_range a x)
  exact fun l => g l 11 (by decide)
theorem kh_range (k : Int) (l : List Int) : 0 ≤ kh k l ∧ kh k l < 2147483647 := hsh_range _
theorem hs1_eq {h v : Int} (h0 : 0 ≤ h) (h1 : h < 2147483647) : (IntKind.i64.wrap (IntKind.i64.wrap (IntKind.i64.wrap (h * 1000003) + v % 2147483647) + 13)).tmod 2147483647 = hs1 h v := by
  have hv : 0 ≤ v % 2147483647 ∧ v % 2147483647 < 2147483647 := ⟨Int.emod_nonneg _ (by decide), Int.emod_lt_of_pos _ (by decide)⟩
  rw [i64w (a := h * 1000003) (by omega), i64w (a := h * 1000003 + v % 2147483647) (by omega), i64w (by omega), tmod_pos (by omega)]
  rfl
def or1 (n : Int) : Int := if n = 0 then 1 else n
theorem or1_max {n : Int} (h : 0 ≤ n) : (if n > 1 then n else 1) = or1 n := by
  unfold or1; split <;> split <;> omega
theorem or1_range {n : Int} (h : 0 ≤ n ∧ n < 2147483647) : 1 ≤ or1 n ∧ or1 n < 2147483647 := by unfold or1; split <;> omega
theorem sq_b {h : Int} (h0 : 0 ≤ h) (h1 : h < 2147483647) : 0 ≤ h * h ∧ h * h ≤ 4611686009837453316 := by
  have := Int.mul_le_mul (show h ≤ 2147483646 by omega) (show h ≤ 2147483646 by omega) h0 (by decide)
  exact ⟨Int.mul_nonneg h0 h0, by omega⟩
def cs (s k : Int) : Int := (kh s [47, k] * kh s [47, k] + 5) % 2147483647
theorem cs_range (s k : Int) : 0 ≤ cs s k ∧ cs s k < 2147483647 := ⟨Int.emod_nonneg _ (by decide), Int.emod_lt_of_pos _ (by decide)⟩
theorem cs_eq {h : Int} (h0 : 0 ≤ h) (h1 : h < 2147483647) : (IntKind.i64.wrap (IntKind.i64.wrap (h * h) + 5)).tmod 2147483647 = (h * h + 5) % 2147483647 := by
  have := sq_b h0 h1
  rw [i64w (a := h * h) (by omega), i64w (by omega), tmod_pos (by omega)]
theorem and1 {x : Int} (h : 0 ≤ x) : IntKind.i64.wrap (BitVec.ofInt IntKind.i64.bits x &&& BitVec.ofInt IntKind.i64.bits 1).toNat = x % 2 := by
  obtain ⟨n, rfl⟩ := Int.eq_ofNat_of_zero_le h
  have e : (BitVec.ofInt IntKind.i64.bits (n : Int) &&& BitVec.ofInt IntKind.i64.bits 1).toNat = n % 2 := by
    rw [BitVec.toNat_and]
    have h1 : (BitVec.ofInt IntKind.i64.bits 1).toNat = 1 := by decide
    have h2 : (BitVec.ofInt IntKind.i64.bits (n : Int)).toNat = n % 2 ^ 64 := by
      rw [BitVec.ofInt_natCast, BitVec.toNat_ofNat]; rfl
    rw [h1, h2, Nat.and_one_is_mod]
    omega
  rw [e, i64w (by omega)]
  omega
def rsb (h : Int) : Int := h * h % 2147483647 / 512 % 2
theorem rsb_eq {h : Int} (h0 : 0 ≤ h) (h1 : h < 2147483647) : IntKind.i64.wrap (BitVec.ofInt IntKind.i64.bits (((IntKind.i64.wrap (h * h)).tmod 2147483647).fdiv (2 ^ (min (Int.toNat 9) IntKind.i64.bits))) &&& BitVec.ofInt IntKind.i64.bits 1).toNat = rsb h := by
  have := sq_b h0 h1
  have e : (2 : Int) ^ (min (Int.toNat 9) IntKind.i64.bits) = 512 := by decide
  rw [i64w (a := h * h) (by omega), tmod_pos (by omega), e, Int.fdiv_eq_ediv_of_nonneg _ (by decide)]
  have hm : 0 ≤ h * h % 2147483647 := Int.emod_nonneg _ (by decide)
  rw [and1 (by omega)]
  rfl
theorem rsb_range (h : Int) : rsb h = 0 ∨ rsb h = 1 := by unfold rsb; omega
/-- Exclusive or of byte strings, the shorter one padded with zeros. -/
def xorb : List UInt8 → List UInt8 → List UInt8
  | [], b => b
  | a, [] => a
  | x :: a, y :: b => (x ^^^ y) :: xorb a b
theorem xorb_nil_right (a : List UInt8) : xorb a [] = a := by cases a <;> rfl
theorem xorb_nil_left (a : List UInt8) : xorb [] a = a := by cases a <;> rfl
theorem xorb_length : ∀ a b : List UInt8, (xorb a b).length = max a.length b.length
  | [], b => by simp [xorb]
  | x :: a, [] => by simp [xorb]
  | x :: a, y :: b => by simp [xorb, xorb_length a b]
theorem xorb_comm : ∀ a b : List UInt8, xorb a b = xorb b a
  | [], b => by rw [xorb_nil_left, xorb_nil_right]
  | x :: a, [] => by rw [xorb_nil_left, xorb_nil_right]
  | x :: a, y :: b => by rw [xorb, xorb, xorb_comm a b, UInt8.xor_comm]
theorem xor8 (x y : UInt8) : UInt8.ofNat (IntKind.u8.wrap ((BitVec.ofInt IntKind.u8.bits (x.toNat : Int) ^^^ BitVec.ofInt IntKind.u8.bits (y.toNat : Int)).toNat : Int)).toNat = x ^^^ y := by
  have h : (BitVec.ofInt IntKind.u8.bits (x.toNat : Int) ^^^ BitVec.ofInt IntKind.u8.bits (y.toNat : Int)).toNat = (x ^^^ y).toNat := by
    rw [BitVec.ofInt_natCast, BitVec.ofInt_natCast, BitVec.toNat_xor, BitVec.toNat_ofNat, BitVec.toNat_ofNat, UInt8.toNat_xor]
    have hx := x.toNat_lt
    have hy := y.toNat_lt
    show x.toNat % 2 ^ 8 ^^^ y.toNat % 2 ^ 8 = _
    rw [Nat.mod_eq_of_lt (by omega), Nat.mod_eq_of_lt (by omega)]
  rw [h, u8w_eq]
  apply ofNat_eq <;> have := (x ^^^ y).toNat_lt <;> omega
/-- The i-th byte, 0 behind the end. -/
def at0 (l : List UInt8) (i : Nat) : UInt8 := l.getD i 0
theorem xorb_take : ∀ (a b : List UInt8) (k : Nat), k < max a.length b.length → (xorb a b).take (k + 1) = (xorb a b).take k ++ [at0 a k ^^^ at0 b k]
  | [], b, k, h => by
    rw [xorb_nil_left, take_snoc b k 0 (by simpa using h)]
    simp [at0]
  | x :: a, [], k, h => by
    rw [xorb_nil_right, take_snoc (x :: a) k 0 (by simpa using h)]
    simp [at0]
  | x :: a, y :: b, 0, h => by simp [xorb, at0]
  | x :: a, y :: b, k + 1, h => by
    rw [xorb, List.take_succ_cons, List.take_succ_cons, xorb_take a b k (by simp at h; omega)]
    simp [at0]
theorem getD_drop {α : Type} (l : List α) (k : Nat) (d : α) (h : k < l.length) : l.drop k = l.getD k d :: l.drop (k + 1) := by
  rw [List.drop_eq_getElem_cons h, List.getD_eq_getElem?_getD, List.getElem?_eq_getElem h]; rfl
def xorAll (l : List (List UInt8)) : List UInt8 := l.foldl xorb []
/-- A list changed up to k, its rest as it was. -/
theorem part_set {α : Type} (f l : List α) (k : Nat) (d y : α) (h : k < l.length) (hf : k < f.length) (hy : f.getD k d = y) : (f.take k ++ l.drop k).set k y = f.take (k + 1) ++ l.drop (k + 1) := by
  have hk : (f.take k).length = k := by rw [List.length_take]; omega
  rw [List.set_append_right _ _ (by omega), hk, Nat.sub_self, getD_drop l k d h, List.set_cons_zero, take_snoc f k d hf, List.append_assoc, hy]
  rfl
theorem part_get {α : Type} (f l : List α) (k : Nat) (d : α) (hf : k ≤ f.length) : (f.take k ++ l.drop k).getD k d = l.getD k d := by
  have hk : (f.take k).length = k := by rw [List.length_take]; omega
  rw [List.getD_eq_getElem?_getD, List.getElem?_append_right (by omega), hk, Nat.sub_self, List.getElem?_drop, List.getD_eq_getElem?_getD, Nat.add_zero]
theorem part_len {α : Type} (f l : List α) (k : Nat) (hf : f.length = l.length) (h : k ≤ l.length) : (f.take k ++ l.drop k).length = l.length := by
  rw [List.length_append, List.length_take, List.length_drop]; omega
theorem map_snoc {α β : Type} (f : α → β) (l : List α) (k : Nat) (d : α) (h : k < l.length) : (l.take (k + 1)).map f = (l.take k).map f ++ [f (l.getD k d)] := by
  rw [take_snoc l k d h, List.map_append]; rfl
theorem range_snoc {β : Type} (f : Nat → β) (k : Nat) : (List.range (k + 1)).map f = (List.range k).map f ++ [f k] := by
  rw [List.range_succ, List.map_append]; rfl
theorem flat_snoc {α β : Type} (f : α → List β) (l : List α) (k : Nat) (d : α) (h : k < l.length) : (l.take (k + 1)).flatMap f = (l.take k).flatMap f ++ f (l.getD k d) := by
  rw [take_snoc l k d h, List.flatMap_append]; simp
theorem all_snoc {α : Type} (p : α → Bool) (l : List α) (k : Nat) (d : α) (h : k < l.length) : (l.take (k + 1)).all p = ((l.take k).all p && p (l.getD k d)) := by
  rw [take_snoc l k d h, List.all_append]; simp
theorem any_snoc {α : Type} (p : α → Bool) (l : List α) (k : Nat) (d : α) (h : k < l.length) : (l.take (k + 1)).any p = ((l.take k).any p || p (l.getD k d)) := by
  rw [take_snoc l k d h, List.any_append]; simp
theorem any_yes {α : Type} (l : List α) (p : α → Bool) (d : α) (k : Nat) (h : k < l.length) (h2 : p (l.getD k d) = true) : l.any p = true := by
  rw [List.any_eq_true]
  refine ⟨l.getD k d, ?_, h2⟩
  rw [List.getD_eq_getElem?_getD, List.getElem?_eq_getElem h]; simp
theorem all_no {α : Type} (l : List α) (p : α → Bool) (d : α) (k : Nat) (h : k < l.length) (h2 : p (l.getD k d) = false) : l.all p = false := by
  rw [List.all_eq_false]
  refine ⟨l.getD k d, ?_, by rw [h2]; decide⟩
  rw [List.getD_eq_getElem?_getD, List.getElem?_eq_getElem h]; simp
theorem getD_mem {α : Type} (l : List α) (k : Nat) (d : α) (h : k < l.length) : l.getD k d ∈ l := by
  rw [List.getD_eq_getElem?_getD, List.getElem?_eq_getElem h]; simp
theorem getD_some' {α : Type} (l : List α) (k : Nat) (d : α) (h : k < l.length) : l[k]? = some (l.getD k d) := by
  rw [List.getD_eq_getElem?_getD, List.getElem?_eq_getElem h]; rfl
theorem take_le_len {α : Type} (l : List α) (k : Nat) : (l.take k).length ≤ k := by rw [List.length_take]; omega
def inr (x lo hi : Int) : Bool := if decide (x ≥ lo) then decide (x ≤ hi) else false
theorem inr_t {x lo hi : Int} : (inr x lo hi = true) = (lo ≤ x ∧ x ≤ hi) := by simp [inr]
theorem inr_f {x lo hi : Int} : (inr x lo hi = false) = ¬ (lo ≤ x ∧ x ≤ hi) := by rw [← inr_t]; simp
theorem isEmpty_t {α : Type} {l : List α} : (l.isEmpty = true) = (l = []) := by simp
theorem hsh_step (l : List Int) (k : Nat) (h : k < l.length) : hsh (l.take (k + 1)) = (IntKind.i64.wrap (IntKind.i64.wrap (IntKind.i64.wrap (hsh (l.take k) * 1000003) + (l.getD k (dfl .int)) % 2147483647) + 13)).tmod 2147483647 := by
  rw [hs1_eq (hsh_range _).1 (hsh_range _).2]
  exact foldl_snoc hs1 11 l k _ h
def b2i (l : List UInt8) : List Int := (l.length : Int) :: l.map fun c => (c.toNat : Int)
theorem b2i_step (l : List UInt8) (k : Nat) (h : k < l.length) : (l.length : Int) :: (l.take (k + 1)).map (fun c => (c.toNat : Int)) = ((l.length : Int) :: (l.take k).map (fun c => (c.toNat : Int))) ++ [IntKind.i64.wrap ((l.getD k (dfl .u8)).toNat : Int)] := by
  have := (l.getD k (dfl .u8)).toNat_lt
  rw [i64w (by omega), map_snoc (fun c : UInt8 => (c.toNat : Int)) l k (dfl .u8) h]
  rfl
def stream (s : Int) (n : Nat) : List UInt8 := (List.range n).map fun i : Nat => b8 (cs s (100 + (i : Int)) / 256)
theorem stream_len (s : Int) (n : Nat) : (stream s n).length = n := by simp [stream]
theorem stream_step (s : Int) (k : Nat) (h : k ≤ 1000) : stream s (k + 1) = stream s k ++ [UInt8.ofNat (IntKind.u8.wrap (IntKind.i64.wrap ((cs s (IntKind.i64.wrap (100 + (k : Int)))).tdiv 256))).toNat] := by
  have h1 := cs_range s (100 + (k : Int))
  rw [i64w (a := 100 + (k : Int)) (by omega), tdiv_pos h1.1, i64w (by omega)]
  exact range_snoc (fun i : Nat => b8 (cs s (100 + (i : Int)) / 256)) k
theorem sum_take_le (l : List (List Int)) (k : Nat) : ((l.take k).map List.length).sum ≤ (l.map List.length).sum := take_sum_le l List.length k
theorem lensum_step {α : Type} (l : List (List α)) (d : List α) (k : Nat) (h : k < l.length) : ((l.take (k + 1)).map List.length).sum = ((l.take k).map List.length).sum + (l.getD k d).length := sum_step List.length l d k h
theorem flatten_step {α : Type} (l : List (List α)) (d : List α) (k : Nat) (h : k < l.length) : (l.take (k + 1)).flatten = (l.take k).flatten ++ l.getD k d := by
  rw [take_snoc l k d h, List.flatten_append]; simp
theorem flatten_len {α : Type} (l : List (List α)) (k : Nat) : (l.take k).flatten.length ≤ (l.map List.length).sum := by
  rw [List.length_flatten]; exact take_sum_le l List.length k
end Go.Proofs.YtlocnjfgeifmnaaGreat.G
namespace Go.Proofs.YtlocnjfgeifmnaaGreat.G
set_option linter.all false
open Go.RowKit L D
theorem inplace_step {α : Type} (f l : List α) (k : Nat) (d y : α) (h : k < l.length) (hf : f.length = l.length) (hy : f.getD k d = y) : f.take (k + 1) ++ l.drop (k + 1) = (f.take k ++ l.drop k).set k y := (part_set f l k d y h (by omega) hy).symm
theorem append_step {α : Type} (f : List α) (k : Nat) (d y : α) (h : k < f.length) (hy : f.getD k d = y) : f.take (k + 1) = f.take k ++ [y] := by rw [take_snoc f k d h, hy]
theorem inplace_done {α : Type} (f l : List α) (k : Nat) (hf : f.length = l.length) (h : l.length ≤ k) : f.take k ++ l.drop k = f := by
  rw [List.take_of_length_le (by omega), List.drop_eq_nil_of_le h, List.append_nil]
theorem mapRange_get {β : Type} (n : Nat) (g : Nat → β) (k : Nat) (d : β) (h : k < n) : ((List.range n).map g).getD k d = g k := by
  rw [List.getD_eq_getElem?_getD, List.getElem?_map, List.getElem?_range h]; rfl
def encr (s : Int) (l : List UInt8) : List UInt8 := (List.range l.length).map fun i : Nat => b8 ((l.getD i (dfl .u8)).toNat + kh s [(i : Int)] % 256)
theorem encr_len (s : Int) (l : List UInt8) : (encr s l).length = l.length := by simp [encr]
theorem encr_get (s : Int) (l : List UInt8) (k : Nat) (h : k < l.length) : (encr s l).getD k (dfl .u8) = b8 ((l.getD k (dfl .u8)).toNat + kh s [(k : Int)] % 256) := mapRange_get _ _ k _ h
theorem encr_impl (s : Int) (l : List UInt8) (k : Nat) (h : k < l.length) : (encr s l).take (k + 1) ++ l.drop (k + 1) = ((encr s l).take k ++ l.drop k).set k (UInt8.ofNat (IntKind.u8.wrap ((((encr s l).take k ++ l.drop k).getD k (dfl .u8)).toNat + IntKind.u8.wrap ((kh s [(k : Int)]).tmod 256))).toNat) := by
  refine inplace_step _ _ k (dfl .u8) _ h (encr_len s l) ?_
  rw [encr_get s l k h, part_get _ _ _ _ (by rw [encr_len]; omega)]
  refine b8_congr ?_
  have := kh_range s [(k : Int)]
  rw [u8w_eq ((kh s [(k : Int)]).tmod 256), tmod_pos this.1]
  omega
theorem encr_spec (s : Int) (l : List UInt8) (k : Nat) (h : k < l.length) : (encr s l).take (k + 1) = (encr s l).take k ++ [UInt8.ofNat (IntKind.u8.wrap ((IntKind.i64.wrap (IntKind.i64.wrap ((l.getD k (dfl .u8)).toNat : Int) + (kh s [(k : Int)]).tmod 256)).tmod 256)).toNat] := by
  refine append_step _ k (dfl .u8) _ (by rw [encr_len]; exact h) ?_
  rw [encr_get s l k h]
  refine b8_congr ?_
  have := kh_range s [(k : Int)]
  have hx := (l.getD k (dfl .u8)).toNat_lt
  rw [tmod_pos this.1, i64w (a := ((l.getD k (dfl .u8)).toNat : Int)) (by omega), i64w (by omega), tmod_pos (by omega)]
  omega
def decr (s : Int) (l : List UInt8) : List UInt8 := (List.range l.length).map fun i : Nat => b8 ((l.getD i (dfl .u8)).toNat - kh s [(i : Int)] % 256)
theorem decr_len (s : Int) (l : List UInt8) : (decr s l).length = l.length := by simp [decr]
theorem decr_get (s : Int) (l : List UInt8) (k : Nat) (h : k < l.length) : (decr s l).getD k (dfl .u8) = b8 ((l.getD k (dfl .u8)).toNat - kh s [(k : Int)] % 256) := mapRange_get _ _ k _ h
theorem decr_impl (s : Int) (l : List UInt8) (k : Nat) (h : k < l.length) : (decr s l).take (k + 1) ++ l.drop (k + 1) = ((decr s l).take k ++ l.drop k).set k (UInt8.ofNat (IntKind.u8.wrap ((((decr s l).take k ++ l.drop k).getD k (dfl .u8)).toNat - IntKind.u8.wrap ((kh s [(k : Int)]).tmod 256))).toNat) := by
  refine inplace_step _ _ k (dfl .u8) _ h (decr_len s l) ?_
  rw [decr_get s l k h, part_get _ _ _ _ (by rw [decr_len]; omega)]
  refine b8_congr ?_
  have := kh_range s [(k : Int)]
  rw [u8w_eq ((kh s [(k : Int)]).tmod 256), tmod_pos this.1]
  omega
theorem decr_spec (s : Int) (l : List UInt8) (k : Nat) (h : k < l.length) : (decr s l).take (k + 1) = (decr s l).take k ++ [UInt8.ofNat (IntKind.u8.wrap ((IntKind.i64.wrap (IntKind.i64.wrap ((l.getD k (dfl .u8)).toNat : Int) - (kh s [(k : Int)]).tmod 256)) % 256)).toNat] := by
  refine append_step _ k (dfl .u8) _ (by rw [decr_len]; exact h) ?_
  rw [decr_get s l k h]
  refine b8_congr ?_
  have := kh_range s [(k : Int)]
  have hx := (l.getD k (dfl .u8)).toNat_lt
  rw [tmod_pos this.1, i64w (a := ((l.getD k (dfl .u8)).toNat : Int)) (by omega), i64w (by omega)]
  omega
theorem xorb_get (a b : List UInt8) (k : Nat) (h : k < max a.length b.length) : (xorb a b).getD k (dfl .u8) = a.getD k 0 ^^^ b.getD k 0 := by
  have h1 := xorb_take a b k h
  have h2 := take_snoc (xorb a b) k (dfl .u8) (by rw [xorb_length]; exact h)
  rw [h1] at h2
  have := List.append_inj_right h2 rfl
  simp only [List.cons.injEq, and_true] at this
  rw [← this]; rfl
theorem u8_zero_xor (x : UInt8) : (0 : UInt8) ^^^ x = x := by simp
theorem xor_impl (p q : List UInt8) (k : Nat) (h : k < q.length) (hl : q.length ≤ p.length) : (xorb p q).take (k + 1) ++ p.drop (k + 1) = ((xorb p q).take k ++ p.drop k).set k (UInt8.ofNat (IntKind.u8.wrap ((BitVec.ofInt IntKind.u8.bits ((((xorb p q).take k ++ p.drop k).getD k (dfl .u8)).toNat : Int) ^^^ BitVec.ofInt IntKind.u8.bits ((q.getD k (dfl .u8)).toNat : Int)).toNat : Int)).toNat) := by
  refine inplace_step _ _ k (dfl .u8) _ (by omega) (by rw [xorb_length]; omega) ?_
  rw [xorb_get p q k (by omega), part_get _ _ _ _ (by rw [xorb_length]; omega), xor8]
  rfl
theorem xor_done (p q : List UInt8) (k : Nat) (h : q.length ≤ k) (hl : q.length ≤ p.length) (hk : k ≤ q.length) : (xorb p q).take k ++ p.drop k = xorb p q := by
  have hk : k = q.length := by omega
  subst hk
  have key : ∀ p q : List UInt8, q.length ≤ p.length → (xorb p q).take q.length ++ p.drop q.length = xorb p q := by
    intro p
    induction p with
    | nil => intro q h; cases q with | nil => rfl | cons _ _ => simp at h
    | cons x p ih => intro q h; cases q with
      | nil => rw [xorb_nil_right]; rfl
      | cons y q => simp only [xorb, List.length_cons, List.take_succ_cons, List.drop_succ_cons, List.cons_append]; rw [ih q (by simpa using h)]
  exact key p q hl
theorem xor_ab (a b : List UInt8) (k : Nat) (ha : k < a.length) (hb : k < b.length) : (xorb a b).take (k + 1) = (xorb a b).take k ++ [UInt8.ofNat (IntKind.u8.wrap ((BitVec.ofInt IntKind.u8.bits ((a.getD k (dfl .u8)).toNat : Int) ^^^ BitVec.ofInt IntKind.u8.bits ((b.getD k (dfl .u8)).toNat : Int)).toNat : Int)).toNat] := by
  rw [xorb_take a b k (by omega), xor8]; rfl
theorem getD_out {α : Type} (l : List α) (k : Nat) (d : α) (h : l.length ≤ k) : l.getD k d = d := by
  rw [List.getD_eq_getElem?_getD, List.getElem?_eq_none h]; rfl
theorem xor_a (a b : List UInt8) (k : Nat) (ha : k < a.length) (hb : b.length ≤ k) : (xorb a b).take (k + 1) = (xorb a b).take k ++ [UInt8.ofNat (((a.getD k (dfl .u8)).toNat : Int)).toNat] := by
  rw [xorb_take a b k (by omega), u8_back]
  have : at0 b k = 0 := getD_out b k 0 hb
  rw [this]; simp; rfl
theorem xor_b (a b : List UInt8) (k : Nat) (ha : a.length ≤ k) (hb : k < b.length) : (xorb a b).take (k + 1) = (xorb a b).take k ++ [UInt8.ofNat (IntKind.u8.wrap ((BitVec.ofInt IntKind.u8.bits (0 : Int) ^^^ BitVec.ofInt IntKind.u8.bits ((b.getD k (dfl .u8)).toNat : Int)).toNat : Int)).toNat] := by
  rw [xorb_take a b k (by omega)]
  have : at0 a k = 0 := getD_out a k 0 ha
  rw [this]
  have := xor8 0 (b.getD k (dfl .u8))
  rw [show ((0 : UInt8).toNat : Int) = 0 from rfl] at this
  rw [this]; rfl
theorem lsz_el {l : List (List UInt8)} (h : lsz List.length l ≤ 1048576) (k : Nat) (hk : k < l.length) : (l.getD k (dfl (.sl .u8))).length ≤ 1048576 := lsz_mem h (getD_some' l k _ hk)
def mrow (key round dir rows : Int) : Int := if (1 ≤ rows ∧ rows ≤ 64) ∧ 0 ≤ round ∧ round ≤ 1000000000000 then cs (kh key [79, round, dir]) 0 % rows else -1
def crow (seed round rows : Int) : Int := if 1 ≤ rows ∧ rows ≤ 64 then cs (kh seed [157, round]) 0 % rows else -1
def ccheck (key counter : Int) (data : List UInt8) : Int := kh key ([71, counter] ++ data.map fun c => (c.toNat : Int))
theorem cc_step (l : List UInt8) (counter : Int) (k : Nat) (h : k < l.length) : [71, counter] ++ (l.take (k + 1)).map (fun c => (c.toNat : Int)) = ([71, counter] ++ (l.take k).map (fun c => (c.toNat : Int))) ++ [IntKind.i64.wrap ((l.getD k (dfl .u8)).toNat : Int)] := by
  have := (l.getD k (dfl .u8)).toNat_lt
  rw [i64w (by omega), map_snoc (fun c : UInt8 => (c.toNat : Int)) l k (dfl .u8) h, List.append_assoc]
theorem cc_range (k c : Int) (l : List UInt8) : 0 ≤ ccheck k c l ∧ ccheck k c l < 2147483647 := kh_range _ _
/-- The four bytes of a check value. -/
def four (n : Int) : List UInt8 := [b8 n, b8 (n / 256), b8 (n / 65536), b8 (n / 16777216)]
theorem four_eq (n : Int) : [UInt8.ofNat (IntKind.u8.wrap n).toNat, UInt8.ofNat (IntKind.u8.wrap (n.fdiv (2 ^ (min (Int.toNat 8) IntKind.i64.bits)))).toNat, UInt8.ofNat (IntKind.u8.wrap (n.fdiv (2 ^ (min (Int.toNat 16) IntKind.i64.bits)))).toNat, UInt8.ofNat (IntKind.u8.wrap (n.fdiv (2 ^ (min (Int.toNat 24) IntKind.i64.bits)))).toNat] = four n := by
  have e1 : (2 : Int) ^ (min (Int.toNat 8) IntKind.i64.bits) = 256 := by decide
  have e2 : (2 : Int) ^ (min (Int.toNat 16) IntKind.i64.bits) = 65536 := by decide
  have e3 : (2 : Int) ^ (min (Int.toNat 24) IntKind.i64.bits) = 16777216 := by decide
  rw [e1, e2, e3, Int.fdiv_eq_ediv_of_nonneg _ (by decide), Int.fdiv_eq_ediv_of_nonneg _ (by decide), Int.fdiv_eq_ediv_of_nonneg _ (by decide)]
  rfl
def okPlain (p : Plain) : Bool := (inr p.kind 0 3) && decide ((p.body.length : Int) ≤ 14)
def okKey (k : Int) : Bool := inr k 1 2147483646
def sealOK (key counter : Int) (p : Plain) : Bool := okKey key && (inr counter 0 1000000000000) && okPlain p
def padded (key counter : Int) (p : Plain) : List UInt8 := [b8 p.kind, b8 p.body.length] ++ p.body ++ (stream (kh key [61, counter]) 18).drop p.body.length
def ckey (key counter : Int) : Int := or1 (kh key [67, counter])
def sealC (key counter : Int) (p : Plain) : List UInt8 := if sealOK key counter p then encr (ckey key counter) (padded key counter p) ++ four (ccheck key counter (encr (ckey key counter) (padded key counter p))) else []
def dkey (key dir : Int) : Int := or1 (kh key [83, dir])
def cover (seed : Int) : List UInt8 := stream (kh seed [73]) 24
end Go.Proofs.YtlocnjfgeifmnaaGreat.G
namespace Go.Proofs.YtlocnjfgeifmnaaGreat.G
set_option linter.all false
open Go.RowKit L D
theorem ite_tt (b c : Bool) : (if b = true then true else c) = (b || c) := by cases b <;> rfl
theorem ite_ff (b c : Bool) : (if b = true then c else false) = (b && c) := by cases b <;> rfl
theorem not_dlt (a b : Int) : (!decide (a < b)) = decide (b ≤ a) := by rw [← decide_not]; congr 1; exact propext Int.not_lt
theorem not_dle (a b : Int) : (!decide (a ≤ b)) = decide (b < a) := by rw [← decide_not]; congr 1; exact propext Int.not_le
theorem bne_not (a b : Int) : (a != b) = !(a == b) := rfl
theorem deq (a b : Int) : decide (a = b) = (a == b) := rfl
theorem or_no {E R S : Bool} (h : E = true) (he : E = !R) : (R && S) = false := by
  rw [h] at he
  cases R with
  | false => rfl
  | true => exact absurd he (by decide)
theorem or_no1 {E R : Bool} (h : E = true) (he : E = !R) : R = false := by
  rw [h] at he
  cases R with
  | false => rfl
  | true => exact absurd he (by decide)
theorem or_yes {E R : Bool} (h : E = false) (he : E = !R) : R = true := by
  rw [h] at he
  cases R with
  | true => rfl
  | false => exact absurd he (by decide)
def okDB (d : DB) : Bool := decide ((d.rows.length : Int) ≤ 64) && d.rows.all fun r => decide ((r.length : Int) = 24)
def okRec (rows : Int) (l : List RShare) (i : Nat) : Bool := inr (l.getD i (dfl .RShare)).client 0 7 && !(decide ((0 : Int) < i) && decide ((l.getD i (dfl .RShare)).client ≤ (l.getD (i - 1) (dfl .RShare)).client)) && okDB (l.getD i (dfl .RShare)).share && (((l.getD i (dfl .RShare)).share.rows.length : Int) == rows)
def hdSrv (s : Srv) : Bool := inr s.id 0 3 && inr s.rows 1 64 && inr s.behavior 0 3 && inr s.round 0 100000 && decide ((s.received.length : Int) ≤ 8)
def okSrv (s : Srv) : Bool := hdSrv s && (List.range s.received.length).all (okRec s.rows s.received)
def okAr (rows : Int) (l : List ARound) (i : Nat) : Bool := inr (l.getD i (dfl .ARound)).round 0 100000 && !(decide ((0 : Int) < i) && decide ((l.getD i (dfl .ARound)).round ≤ (l.getD (i - 1) (dfl .ARound)).round)) && okDB (l.getD i (dfl .ARound)).db && (((l.getD i (dfl .ARound)).db.rows.length : Int) == rows)
def hdArc (a : Arc) : Bool := inr a.rows 1 64 && decide ((a.rounds.length : Int) ≤ 8)
def okArc (a : Arc) : Bool := hdArc a && (List.range a.rounds.length).all (okAr a.rows a.rounds)
def lastR (a : Arc) : Int := if a.rounds.length = 0 then -1 else (a.rounds.getD (a.rounds.length - 1) (dfl .ARound)).round
def long (b : List UInt8) : Bool := decide ((14 : Int) < b.length)
def okCli (c : Cli) : Bool := inr c.id 0 7 && inr c.friend 0 7 && !(c.id == c.friend) && okKey c.key && decide ((c.submitted.length : Int) ≤ 16) && decide ((c.inbox.length : Int) ≤ 16) && !c.submitted.any long && !c.inbox.any long && inr c.sent 0 c.submitted.length && inr c.next 0 100000
def sameOwn (a b : Cli) : Bool := (a.id == b.id) && (a.friend == b.friend) && (a.key == b.key) && (a.seed == b.seed) && (a.submitted == b.submitted)
def preL (a b : List (List UInt8)) : Bool := decide ((a.length : Int) ≤ b.length) && (a == b.take a.length)
def okDev (d : Dev) : Bool := okCli d.live && okCli d.saved && sameOwn d.live d.saved && decide (d.saved.sent ≤ d.live.sent) && decide (d.saved.next ≤ d.live.next) && preL d.saved.inbox d.live.inbox
def srvCnt (n : Int) : Bool := inr n 2 4
def okS (x : Wld) (i : Nat) : Bool := okSrv (x.servers.getD i (dfl .Srv)) && ((x.servers.getD i (dfl .Srv)).id == (i : Int)) && ((x.servers.getD i (dfl .Srv)).rows == x.rows) && ((x.servers.getD i (dfl .Srv)).round == x.round) && decide (((x.servers.getD i (dfl .Srv)).received.length : Int) ≤ 0)
def okD (x : Wld) (i : Nat) : Bool := okDev (x.devices.getD i (dfl .Dev)) && ((x.devices.getD i (dfl .Dev)).live.id == (i : Int)) && ((x.devices.getD i (dfl .Dev)).live.friend == ((i ^^^ 1 : Nat) : Int)) && ((x.devices.getD i (dfl .Dev)).live.key == (x.devices.getD (i ^^^ 1) (dfl .Dev)).live.key) && decide ((x.devices.getD i (dfl .Dev)).live.next ≤ x.round)
def hdW (x : Wld) : Bool := inr x.rows 1 64 && srvCnt x.servers.length && inr x.devices.length 2 8 && ((x.devices.length : Int).tmod 2 == 0) && okArc x.archive && (x.archive.rows == x.rows) && decide (lastR x.archive < x.round) && okKey x.master && inr x.round 0 100000 && decide (0 ≤ x.cancelled)
def okW (x : Wld) : Bool := hdW x && (List.range x.servers.length).all (okS x) && (List.range x.devices.length).all (okD x)
theorem range_all {p : Nat → Bool} {k : Nat} (h : (List.range k).all p = true) (hk : p k = true) : (List.range (k + 1)).all p = true := by
  rw [List.range_succ, List.all_append, h]; simp [hk]
theorem range_no {p : Nat → Bool} {k n : Nat} (h : k < n) (hk : p k = false) : (List.range n).all p = false := by
  rw [List.all_eq_false]
  exact ⟨k, List.mem_range.2 h, by rw [hk]; decide⟩
/-- The place of the first element that p takes; -1 if there is none. -/
def fidx {α : Type} (p : α → Bool) (l : List α) : Int := if l.any p then (l.findIdx p : Int) else -1
theorem fidx_hit {α : Type} {p : α → Bool} {l : List α} {k : Nat} (d : α) (h : k < l.length) (h1 : (l.take k).any p = false) (h2 : p (l.getD k d) = true) : fidx p l = k := by
  have ha : l.any p = true := any_yes l p d k h h2
  have e : l = l.take k ++ l.getD k d :: l.drop (k + 1) := by rw [← getD_drop l k d h, List.take_append_drop]
  unfold fidx
  rw [if_pos ha]
  have hf : l.findIdx p = k := by
    rw [List.findIdx_eq h]
    refine ⟨?_, fun j hj => ?_⟩
    · rw [List.getD_eq_getElem?_getD, List.getElem?_eq_getElem h] at h2; exact h2
    · rw [List.any_eq_false] at h1
      have := h1 l[j] (by rw [List.mem_take_iff_getElem]; exact ⟨j, by omega, rfl⟩)
      simpa using this
  rw [hf]
theorem fidx_miss {α : Type} {p : α → Bool} {l : List α} (h : l.any p = false) : fidx p l = -1 := by unfold fidx; rw [if_neg (by rw [h]; decide)]
theorem fidx_ge {α : Type} (p : α → Bool) (l : List α) : decide (fidx p l ≥ 0) = l.any p := by
  unfold fidx
  cases h : l.any p
  · rw [if_neg (by decide)]; rfl
  · rw [if_pos rfl]; simp
theorem any_no {α : Type} {p : α → Bool} {l : List α} {k : Nat} (d : α) (h : k < l.length) (h1 : (l.take k).any p = false) (h2 : p (l.getD k d) = false) : (l.take (k + 1)).any p = false := by
  rw [any_snoc p l k d h, h1, h2]; rfl
theorem xor1n (k : Nat) (h : k < 1048576) : IntKind.i64.wrap (BitVec.ofInt IntKind.i64.bits (k : Int) ^^^ BitVec.ofInt IntKind.i64.bits 1).toNat = ((k ^^^ 1 : Nat) : Int) := by
  have h2 : (BitVec.ofInt IntKind.i64.bits (k : Int) ^^^ BitVec.ofInt IntKind.i64.bits 1).toNat = k ^^^ 1 := by
    rw [BitVec.toNat_xor]
    have h1 : (BitVec.ofInt IntKind.i64.bits 1).toNat = 1 := by decide
    have h2 : (BitVec.ofInt IntKind.i64.bits (k : Int)).toNat = k % 2 ^ 64 := by rw [BitVec.ofInt_natCast, BitVec.toNat_ofNat]; rfl
    rw [h1, h2, Nat.mod_eq_of_lt (by omega)]
  have hx := Nat.xor_lt_two_pow (n := 20) (show k < 2 ^ 20 by omega) (show 1 < 2 ^ 20 by decide)
  rw [h2, i64w (by omega)]
theorem any_not_all {α : Type} (l : List α) (p : α → Bool) : l.all p = !(l.any fun b => !p b) := by
  induction l with
  | nil => rfl
  | cons a r ih => simp [ih]
end Go.Proofs.YtlocnjfgeifmnaaGreat.G
namespace Go.Proofs.YtlocnjfgeifmnaaGreat.G
set_option linter.all false
open Go.RowKit L D
theorem xor_lt (k n : Nat) (h : k < n) (he : n % 2 = 0) : k ^^^ 1 < n := by
  have h1 : (k ^^^ 1) / 2 = k / 2 := by
    have := Nat.xor_div_two (a := k) (b := 1)
    simpa using this
  have h2 : k ^^^ 1 < 2 * (k / 2) + 2 := by
    have := Nat.div_add_mod (k ^^^ 1) 2
    have := Nat.mod_lt (k ^^^ 1) (show 0 < 2 by decide)
    omega
  omega
theorem xorN (k : Nat) (h : k < 2 ^ 62) : IntKind.i64.wrap (BitVec.ofInt IntKind.i64.bits (k : Int) ^^^ BitVec.ofInt IntKind.i64.bits 1).toNat = ((k ^^^ 1 : Nat) : Int) := by
  have h2 : (BitVec.ofInt IntKind.i64.bits (k : Int) ^^^ BitVec.ofInt IntKind.i64.bits 1).toNat = k ^^^ 1 := by
    rw [BitVec.toNat_xor]
    have h1 : (BitVec.ofInt IntKind.i64.bits 1).toNat = 1 := by decide
    have h2 : (BitVec.ofInt IntKind.i64.bits (k : Int)).toNat = k % 2 ^ 64 := by rw [BitVec.ofInt_natCast, BitVec.toNat_ofNat]; rfl
    rw [h1, h2, Nat.mod_eq_of_lt (by omega)]
  have hx := Nat.xor_lt_two_pow (n := 62) h (show 1 < 2 ^ 62 by decide)
  rw [h2, i64w (by omega)]
theorem hdW_dev {x : Wld} (h : hdW x = true) : x.devices.length % 2 = 0 ∧ x.devices.length ≤ 8 ∧ 2 ≤ x.devices.length := by
  simp only [hdW, inr_t, Bool.and_eq_true, beq_iff_eq] at h
  have h1 := h.1.1.1.1.1.1.2
  have h2 := h.1.1.1.1.1.1.1.2
  rw [tmod_pos (by omega)] at h1
  omega
theorem okW_hd {x : Wld} (h : okW x = true) : hdW x = true := by simp only [okW, Bool.and_eq_true] at h; exact h.1.1
theorem okW_srv {x : Wld} (h : okW x = true) : x.servers.length ≤ 4 ∧ 2 ≤ x.servers.length := by
  have := okW_hd h
  simp only [hdW, srvCnt, inr_t, Bool.and_eq_true, beq_iff_eq] at this
  have h1 := this.1.1.1.1.1.1.1.1.2
  omega
def svW (x : Wld) : Bool := (List.range x.servers.length).all (okS x) && srvCnt x.servers.length
def dvW (x : Wld) : Bool := ((x.devices.length : Int).tmod 2 == 0) && inr x.devices.length 2 8 && (List.range x.devices.length).all (okD x)
def hasC (x : Wld) (c : Int) : Bool := inr c 0 (x.devices.length - 1)
def pairOK (x : Wld) (c : Int) : Bool := hasC x c && decide (((c.toNat ^^^ 1 : Nat) : Int) < x.devices.length)
def dirn (c : Cli) : Int := if c.id < c.friend then 0 else 1
def mcell (c : Cli) (at' : Int) : List UInt8 := sealC (dkey c.key (dirn c)) at' ⟨1, c.submitted.getD at'.toNat (dfl (.sl .u8))⟩
def cwOK (c : Cli) (r n : Int) : Bool := okCli c && inr r 0 100000 && inr n 1 64
def cwRow (c : Cli) (r n : Int) : Int := if cwOK c r n = true then (if c.sent < c.submitted.length then mrow c.key r (dirn c) n else crow c.seed r n) else 0
def cwCell (c : Cli) (r n : Int) : List UInt8 := if cwOK c r n = true then (if c.sent < c.submitted.length then mcell c c.sent else cover (kh c.seed [r])) else []
theorem cwOK_sent {c : Cli} {r n : Int} (h : cwOK c r n = true) : 0 ≤ c.sent ∧ c.sent ≤ c.submitted.length := by
  simp only [cwOK, okCli, inr_t, Bool.and_eq_true] at h
  exact h.1.1.1.2
theorem sealOK_body {k c : Int} {p : Plain} (h : sealOK k c p = true) : p.body.length ≤ 14 := by
  simp only [sealOK, okPlain, Bool.and_eq_true, decide_eq_true_eq] at h
  omega
def rowOK (d : DB) (i : Int) : Bool := inr i 0 (d.rows.length - 1)
def rowAt (d : DB) (i : Int) : List UInt8 := if rowOK d i = true then d.rows.getD i.toNat (dfl (.sl .u8)) else []
def rstep (x : Wld) (c f : Cli) (n : Nat) (r : ARound) : Nat :=
  if r.round < f.next ∨ c.submitted.length ≤ n then n else
  if (rowOK r.db (mrow c.key r.round (dirn c) x.rows) && (rowAt r.db (mrow c.key r.round (dirn c) x.rows) == mcell c n)) = true then n + 1 else n
def rcount (x : Wld) (c f : Cli) (l : List ARound) : Nat := l.foldl (rstep x c f) f.inbox.length
theorem rcount_stay (x : Wld) (c f : Cli) : ∀ (l : List ARound) (n : Nat), c.submitted.length ≤ n → l.foldl (rstep x c f) n = n
  | [], _, _ => rfl
  | r :: l, n, h => by
    rw [List.foldl_cons, show rstep x c f n r = n from if_pos (Or.inr h)]
    exact rcount_stay x c f l n h
theorem rcount_le (x : Wld) (c f : Cli) (l : List ARound) (k : Nat) : rcount x c f (l.take k) ≤ f.inbox.length + k := by
  have g : ∀ (l : List ARound) (n : Nat), l.foldl (rstep x c f) n ≤ n + l.length := by
    intro l
    induction l with
    | nil => intro n; exact Nat.le_refl _
    | cons r l ih =>
      intro n
      have h1 : rstep x c f n r ≤ n + 1 := by unfold rstep; split; omega; split <;> omega
      have := ih (rstep x c f n r)
      rw [List.foldl_cons, List.length_cons]; omega
  have := g (l.take k) f.inbox.length
  have := take_le_len l k
  unfold rcount; omega
theorem rcount_step (x : Wld) (c f : Cli) (l : List ARound) (k : Nat) (h : k < l.length) : rcount x c f (l.take (k + 1)) = rstep x c f (rcount x c f (l.take k)) (l.getD k (dfl .ARound)) := foldl_snoc _ _ l k _ h
theorem rcount_done (x : Wld) (c f : Cli) (l : List ARound) (k : Nat) (h : c.submitted.length ≤ rcount x c f (l.take k)) : rcount x c f l = rcount x c f (l.take k) := by
  have e : l = l.take k ++ l.drop k := (List.take_append_drop k l).symm
  conv => lhs; rw [e]
  unfold rcount at h ⊢
  rw [List.foldl_append, rcount_stay x c f _ _ h]
def sentRecv (x : Wld) (i : Int) : Bool := if pairOK x i = true then decide ((x.devices.getD i.toNat (dfl .Dev)).live.sent ≤ (rcount x (x.devices.getD i.toNat (dfl .Dev)).live (x.devices.getD (i.toNat ^^^ 1) (dfl .Dev)).live x.archive.rounds : Int)) else false
theorem pair_impl {x : Wld} {c : Int} (hd : x.devices.length ≤ 1048576) : (hasC x c && hasC x (IntKind.i64.wrap (BitVec.ofInt IntKind.i64.bits c ^^^ BitVec.ofInt IntKind.i64.bits 1).toNat)) = pairOK x c := by
  by_cases hc : hasC x c = true
  · have hc2 : 0 ≤ c ∧ c < x.devices.length := by simp only [hasC, inr_t] at hc; omega
    obtain ⟨n, rfl⟩ := Int.eq_ofNat_of_zero_le hc2.1
    rw [xorN n (by omega), pairOK, hc]
    simp only [Bool.true_and, hasC, Int.toNat_natCast]
    rw [Bool.eq_iff_iff, inr_t, decide_eq_true_eq]
    omega
  · rw [Bool.not_eq_true] at hc
    rw [pairOK, hc]; rfl
theorem pair_spec {x : Wld} {c : Int} (hd : x.devices.length ≤ 1048576) : (inr c 0 (x.devices.length - 1) && decide (IntKind.i64.wrap (BitVec.ofInt IntKind.i64.bits c ^^^ BitVec.ofInt IntKind.i64.bits 1).toNat < (x.devices.length : Int))) = pairOK x c := by
  by_cases hc : hasC x c = true
  · have hc2 : 0 ≤ c ∧ c < x.devices.length := by simp only [hasC, inr_t] at hc; omega
    obtain ⟨n, rfl⟩ := Int.eq_ofNat_of_zero_le hc2.1
    rw [xorN n (by omega)]; rfl
  · rw [Bool.not_eq_true] at hc
    rw [pairOK, hc, show inr c 0 (x.devices.length - 1) = false from hc]; rfl
theorem pair_lt {x : Wld} {i : Int} (h : pairOK x i = true) : 0 ≤ i ∧ i.toNat < x.devices.length ∧ i.toNat ^^^ 1 < x.devices.length ∧ i = (i.toNat : Int) := by
  simp only [pairOK, hasC, inr_t, Bool.and_eq_true, decide_eq_true_eq] at h
  omega
end Go.Proofs.YtlocnjfgeifmnaaGreat.G
namespace Go.Proofs.YtlocnjfgeifmnaaGreat.G
set_option linter.all false
open Go.RowKit L D
def rbit (s : Int) (i : Nat) : Int := rsb (kh s [(i : Int), 41])
def randSel (s rows : Int) : List Int := if 0 ≤ rows ∧ rows ≤ 64 then (List.range rows.toNat).map (rbit s) else []
theorem randSel_len (s rows : Int) : (randSel s rows).length ≤ 64 := by
  unfold randSel
  split
  · simp; omega
  · simp
theorem randSel_in (s rows : Int) (k : Nat) (h0 : (k : Int) < rows) (h1 : rows ≤ 64) : k < (randSel s rows).length := by
  rw [randSel, if_pos (by omega)]; simp; omega
theorem randSel_step (s rows : Int) (k : Nat) (h0 : (k : Int) < rows) (h1 : rows ≤ 64) : (randSel s rows).take (k + 1) = (randSel s rows).take k ++ [IntKind.i64.wrap (BitVec.ofInt IntKind.i64.bits (((IntKind.i64.wrap (kh s [(k : Int), 41] * kh s [(k : Int), 41])).tmod 2147483647).fdiv (2 ^ (min (Int.toNat 9) IntKind.i64.bits))) &&& BitVec.ofInt IntKind.i64.bits 1).toNat] := by
  rw [rsb_eq (kh_range _ _).1 (kh_range _ _).2, take_snoc _ _ 0 (randSel_in s rows k h0 h1)]
  congr 2
  rw [randSel, if_pos (by omega), mapRange_get _ _ _ _ (by omega)]
  rfl
theorem randSel_end (s rows : Int) (k : Nat) (h : rows ≤ 64 → rows ≤ k) : (randSel s rows).take k = randSel s rows := by
  refine List.take_of_length_le ?_
  unfold randSel
  split
  · simp; omega
  · simp
def isSel (v : List Int) (rows : Int) : Bool := (decide ((v.length : Int) = rows) && decide (rows ≤ 64)) && v.all fun x => inr x 0 1
theorem isSel_impl (v : List Int) (rows : Int) : isSel v rows = ((inr rows 0 64 && decide ((v.length : Int) = rows)) && !(v.any fun x => !inr x 0 1)) := by
  have e : (v.all fun x => inr x 0 1) = !(v.any fun x => !inr x 0 1) := by rw [List.not_any_eq_all_not]; simp
  rw [isSel, e]
  by_cases h : (v.length : Int) = rows
  · subst h; simp [inr]
  · simp [h]
theorem isSel_len {v : List Int} {r : Int} (h : isSel v r = true) : (v.length : Int) = r ∧ r ≤ 64 := by
  simp only [isSel, Bool.and_eq_true, decide_eq_true_eq] at h
  exact h.1
theorem isSel_get {v : List Int} {r : Int} (h : isSel v r = true) (k : Nat) (hk : k < v.length) : v.getD k (dfl .int) = 0 ∨ v.getD k (dfl .int) = 1 := by
  simp only [isSel, Bool.and_eq_true, List.all_eq_true, inr_t] at h
  have := h.2 (v.getD k (dfl .int)) (by rw [List.getD_eq_getElem?_getD, List.getElem?_eq_getElem hk]; exact List.getElem_mem _)
  omega
def xb (x y : Int) : Int := if x = y then 0 else 1
theorem xb_eq {x y : Int} (hx : x = 0 ∨ x = 1) (hy : y = 0 ∨ y = 1) : IntKind.i64.wrap (BitVec.ofInt IntKind.i64.bits x ^^^ BitVec.ofInt IntKind.i64.bits y).toNat = xb x y := by
  rcases hx with rfl | rfl <;> rcases hy with rfl | rfl <;> decide
def xorOK (a b : List Int) : Bool := isSel a a.length && isSel b a.length
def xorSel (a b : List Int) : List Int := if xorOK a b then List.zipWith xb a b else []
theorem xorOK_len {a b : List Int} (h : xorOK a b = true) : b.length = a.length ∧ a.length ≤ 64 := by
  simp only [xorOK, Bool.and_eq_true] at h
  have h1 := isSel_len h.1
  have h2 := isSel_len h.2
  omega
theorem xorSel_pos {a b : List Int} (h : xorOK a b = true) : xorSel a b = List.zipWith xb a b := by rw [xorSel, if_pos h]
theorem zip_len {a b : List Int} (h : xorOK a b = true) : (List.zipWith xb a b).length = a.length := by
  have := xorOK_len h
  rw [List.length_zipWith]; omega
theorem xorSel_len (a b : List Int) : (xorSel a b).length ≤ 64 := by
  cases h : xorOK a b with
  | true => rw [xorSel_pos h, zip_len h]; exact (xorOK_len h).2
  | false => rw [xorSel, if_neg (by rw [h]; decide)]; simp
theorem zip_get {a b : List Int} (h : xorOK a b = true) (k : Nat) (hk : k < a.length) : (List.zipWith xb a b).getD k (dfl .int) = IntKind.i64.wrap (BitVec.ofInt IntKind.i64.bits (a.getD k (dfl .int)) ^^^ BitVec.ofInt IntKind.i64.bits (b.getD k (dfl .int))).toNat := by
  have hl := xorOK_len h
  have h' := h
  simp only [xorOK, Bool.and_eq_true] at h'
  rw [xb_eq (isSel_get h'.1 k hk) (isSel_get h'.2 k (by omega))]
  rw [List.getD_eq_getElem?_getD, List.getD_eq_getElem?_getD, List.getD_eq_getElem?_getD, List.getElem?_zipWith, List.getElem?_eq_getElem hk, List.getElem?_eq_getElem (show k < b.length by omega)]
  rfl
theorem xorSel_impl {a b : List Int} (h : xorOK a b = true) (k : Nat) (hk : k < b.length) : (List.zipWith xb a b).take (k + 1) ++ a.drop (k + 1) = ((List.zipWith xb a b).take k ++ a.drop k).set k (IntKind.i64.wrap (BitVec.ofInt IntKind.i64.bits (((List.zipWith xb a b).take k ++ a.drop k).getD k (dfl .int)) ^^^ BitVec.ofInt IntKind.i64.bits (b.getD k (dfl .int))).toNat) := by
  have hl := xorOK_len h
  have hz := zip_len h
  rw [part_set _ _ k (dfl .int) _ (by omega) (by omega)]
  rw [part_get _ _ _ _ (by omega), zip_get h k (by omega)]
theorem xorSel_spec {a b : List Int} (h : xorOK a b = true) (k : Nat) (hk : k < a.length) : (List.zipWith xb a b).take (k + 1) = (List.zipWith xb a b).take k ++ [IntKind.i64.wrap (BitVec.ofInt IntKind.i64.bits (a.getD k (dfl .int)) ^^^ BitVec.ofInt IntKind.i64.bits (b.getD k (dfl .int))).toNat] := by
  rw [take_snoc _ k (dfl .int) (by rw [zip_len h]; exact hk), zip_get h k hk]
def unitOK (rows i : Int) : Bool := inr rows 1 64 && inr i 0 (IntKind.i64.wrap (rows - 1))
def unitS (rows i : Int) : List Int := if unitOK rows i then (List.replicate rows.toNat (dfl .int)).set i.toNat 1 else []
theorem unitOK_b {rows i : Int} (h : unitOK rows i = true) : 1 ≤ rows ∧ rows ≤ 64 ∧ 0 ≤ i ∧ i < rows := by
  simp only [unitOK, Bool.and_eq_true, inr_t] at h
  rw [i64w (by omega)] at h
  omega
theorem unitS_pos {rows i : Int} (h : unitOK rows i = true) : unitS rows i = (List.replicate rows.toNat (dfl .int)).set i.toNat 1 := by rw [unitS, if_pos h]
theorem unitS_neg {rows i : Int} (h : unitOK rows i = false) : unitS rows i = [] := by rw [unitS, if_neg (by rw [h]; decide)]
theorem unitS_len (rows i : Int) : (unitS rows i).length ≤ 64 := by
  cases h : unitOK rows i with
  | true => rw [unitS_pos h]; have := unitOK_b h; simp; omega
  | false => rw [unitS_neg h]; simp
def mkOK (rows i : Int) (sd : List Int) : Bool := !decide (((unitS rows i).length : Int) = 0) && srvCnt (IntKind.i64.wrap ((sd.length : Int) + 1))
def lastQ (rows i : Int) (sd : List Int) : List Int := sd.foldl (fun l s => xorSel l (randSel s rows)) (unitS rows i)
def makeQ (rows i : Int) (sd : List Int) : List (List Int) := if mkOK rows i sd then sd.map (fun s => randSel s rows) ++ [lastQ rows i sd] else []
theorem lastQ_step (rows i : Int) (sd : List Int) (k : Nat) (h : k < sd.length) : lastQ rows i (sd.take (k + 1)) = xorSel (lastQ rows i (sd.take k)) (randSel (sd.getD k (dfl .int)) rows) := foldl_snoc _ _ sd k _ h
theorem lastQ_len (rows i : Int) (sd : List Int) : (lastQ rows i sd).length ≤ 64 := by
  rcases List.eq_nil_or_concat sd with rfl | ⟨l, x, rfl⟩
  · exact unitS_len _ _
  · rw [List.concat_eq_append, lastQ, List.foldl_append]; exact xorSel_len _ _
theorem mkOK_len {rows i : Int} {sd : List Int} (h : mkOK rows i sd = true) (hl : sd.length ≤ 1048576) : sd.length ≤ 3 := by
  simp only [mkOK, srvCnt, Bool.and_eq_true, inr_t] at h
  rw [i64w (by omega)] at h
  omega
def rseeds (n : Nat) (r row s : Int) : List Int := (List.range (n - 1)).map fun i : Nat => kh s [229, r, row, (i : Int)]
theorem rseeds_len (n : Nat) (r row s : Int) : (rseeds n r row s).length = n - 1 := by simp [rseeds]
theorem rseeds_step (n : Nat) (r row s : Int) (k : Nat) (h : k < n - 1) : (rseeds n r row s).take (k + 1) = (rseeds n r row s).take k ++ [kh s [229, r, row, (k : Int)]] := by
  rw [take_snoc _ k (dfl .int) (by rw [rseeds_len]; exact h), rseeds, mapRange_get _ _ _ _ h]
theorem maxi0 (n : Nat) (h : n ≤ 1048576) : maxi 0 (IntKind.i64.wrap ((n : Int) - 1)) = ((n - 1 : Nat) : Int) := by
  rw [i64w (by omega)]; unfold maxi; split <;> omega
def svOK (x : Wld) (sv row : Int) : Bool := (okW x && inr sv 0 (IntKind.i64.wrap ((x.servers.length : Int) - 1))) && inr row 0 (IntKind.i64.wrap (x.rows - 1))
def query (x : Wld) (r row s : Int) : List (List Int) := makeQ x.rows row (rseeds x.servers.length r row s)
def selView (x : Wld) (sv r row s : Int) : List Int := if svOK x sv row then (query x r row s).getD sv.toNat (dfl (.sl .int)) else []
theorem svOK_sv {x : Wld} {sv row : Int} (h : svOK x sv row = true) : 0 ≤ sv ∧ sv < x.servers.length ∧ x.servers.length ≤ 4 ∧ 2 ≤ x.servers.length := by
  simp only [svOK, Bool.and_eq_true] at h
  have h1 := okW_srv h.1.1
  have h2 := h.1.2
  rw [inr_t, i64w (by omega)] at h2
  omega
theorem okW_rows {x : Wld} (h : okW x = true) : 1 ≤ x.rows ∧ x.rows ≤ 64 := by
  have := okW_hd h
  simp only [hdW, inr_t, Bool.and_eq_true] at this
  have h1 := this.1.1.1.1.1.1.1.1.1
  omega
theorem query_len {x : Wld} {sv row : Int} (r s : Int) (h : svOK x sv row = true) : (makeQ x.rows row (rseeds x.servers.length r row s)).length = x.servers.length := by
  have hs := svOK_sv h
  simp only [svOK, Bool.and_eq_true] at h
  have hr := okW_rows h.1.1
  have hu : unitOK x.rows row = true := by
    have h2 := h.2
    simp only [unitOK, Bool.and_eq_true]
    exact ⟨by rw [inr_t]; omega, h2⟩
  have hm : mkOK x.rows row (rseeds x.servers.length r row s) = true := by
    simp only [mkOK, srvCnt, Bool.and_eq_true, inr_t, rseeds_len]
    rw [i64w (by omega)]
    refine ⟨?_, by omega⟩
    rw [unitS_pos hu, List.length_set, List.length_replicate]
    simp; omega
  rw [makeQ, if_pos hm, List.length_append, List.length_map, rseeds_len]
  simp; omega
theorem makeQ_el (rows i : Int) (sd : List Int) : ∀ l, l ∈ makeQ rows i sd → l.length ≤ 64 := by
  intro l hl
  unfold makeQ at hl
  split at hl
  · rcases List.mem_append.1 hl with h | h
    · obtain ⟨s, _, rfl⟩ := List.mem_map.1 h
      exact randSel_len _ _
    · rw [List.mem_singleton.1 h]; exact lastQ_len _ _ _
  · cases hl
theorem selView_len (x : Wld) (sv r row s : Int) : (selView x sv r row s).length ≤ 64 := by
  unfold selView
  split
  · by_cases h : sv.toNat < (query x r row s).length
    · rw [List.getD_eq_getElem?_getD, List.getElem?_eq_getElem h]
      exact makeQ_el _ _ _ _ (List.getElem_mem _)
    · rw [List.getD_eq_getElem?_getD, List.getElem?_eq_none (by omega)]
      exact Nat.zero_le _
  · exact Nat.zero_le _
end Go.Proofs.YtlocnjfgeifmnaaGreat.G
