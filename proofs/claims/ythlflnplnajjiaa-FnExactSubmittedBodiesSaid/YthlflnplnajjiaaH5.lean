/-
  Contracts of the laws' own functions by the symbolic machine: held.. of every type.
-/
import Derived.Test.YthlflnplnajjiaaH0
namespace Go.Proofs.Ythlflnplnajjiaa.G
set_option linter.all false
open Go.RowKit L D
set_option maxRecDepth 100000
theorem c_heldByteS (l : (List UInt8)) (k0 : Int) (h0 : 0 ≤ k0) (h1 : k0 + ((mnl (fun _ => 1)) l : Nat) ≤ 1099511627776) : Sound ty Try.prog 41 [.a (.sl .u8 ((mkl mku8 (fun _ => 1)) k0 l)), .a (.lit (.int .i64 k0))] [.a (.lit (.int .i64 (k0 + ((mnl (fun _ => 1)) l : Nat))))] := by
  refine Sound.of X Try.call41 Try.func41 rfl rfl (by decide) Try.ntmps41 (by simp) ?_
  intro zb
  refine W.bound 0 rfl fun hl => ?_
  rw [mkl_len] at hl
  refine W.seq ?_
  refine W.reg X [] [] [0, 1] [] rfl (by (repeat' (first | exact True.intro | apply And.intro)) <;> first | (intros; omega) | exact rfl | exact El_all _ (by decide) | exact (u8w _).1 | exact (u8w _).2 | exact (u8n _).1 | exact (u8n _).2 | (simp only [byt, maxLen, List.length_append, List.length_singleton, List.length_cons, List.length_nil, List.length_replicate, List.length_set]; omega) | (intros; simp only [decide_eq_true_eq, decide_eq_false_iff_not, Bool.not_eq_true', Bool.not_eq_false', beq_iff_eq, bne_iff_ne, beq_eq_false_iff_ne, bne_eq_false_iff_eq, ne_eq, gt_iff_lt, ge_iff_le, Int.not_lt, Int.not_le, Decidable.not_not, Int.toNat_natCast, Int.ofNat_lt, Int.ofNat_le, Nat.not_lt, Nat.not_le] at *; omega)) ?_
  refine W.seq ?_
  refine W.seq ?_
  refine W.reg X [] [] [0, 1, 5] [] rfl (by (repeat' (first | exact True.intro | apply And.intro)) <;> first | (intros; omega) | exact rfl | exact El_all _ (by decide) | exact (u8w _).1 | exact (u8w _).2 | exact (u8n _).1 | exact (u8n _).2 | (simp only [byt, maxLen, List.length_append, List.length_singleton, List.length_cons, List.length_nil, List.length_replicate, List.length_set]; omega) | (intros; simp only [decide_eq_true_eq, decide_eq_false_iff_not, Bool.not_eq_true', Bool.not_eq_false', beq_iff_eq, bne_iff_ne, beq_eq_false_iff_ne, bne_eq_false_iff_eq, ne_eq, gt_iff_lt, ge_iff_le, Int.not_lt, Int.not_le, Decidable.not_not, Int.toNat_natCast, Int.ofNat_lt, Int.ofNat_le, Nat.not_lt, Nat.not_le] at *; omega)) ?_
  refine W.block ?_
  refine W.loopO (fun k => k ≤ l.length) (fun k : Nat => [(1, .one (.a (.lit (.int .i64 (k0 + (mnl (fun _ => 1) (l.take k) : Nat)))))), (5, .one (.a (.lit (.int .i64 k))))]) (fun k => []) (fun k => l.length - k) 0 (fun k => rfl) (Nat.zero_le _) (by simp [mnl]) ?_
  intro k hk
  refine W.seq ?_
  refine W.seq ?_
  refine W.reg X [] [] [0, 1, 5, 9] [] rfl (by (repeat' (first | exact True.intro | apply And.intro)) <;> first | (intros; omega) | exact rfl | exact El_all _ (by decide) | exact (u8w _).1 | exact (u8w _).2 | exact (u8n _).1 | exact (u8n _).2 | (simp only [byt, maxLen, List.length_append, List.length_singleton, List.length_cons, List.length_nil, List.length_replicate, List.length_set]; omega) | (intros; simp only [decide_eq_true_eq, decide_eq_false_iff_not, Bool.not_eq_true', Bool.not_eq_false', beq_iff_eq, bne_iff_ne, beq_eq_false_iff_ne, bne_eq_false_iff_eq, ne_eq, gt_iff_lt, ge_iff_le, Int.not_lt, Int.not_le, Decidable.not_not, Int.toNat_natCast, Int.ofNat_lt, Int.ofNat_le, Nat.not_lt, Nat.not_le] at *; omega)) ?_
  refine W.cond rfl (fun hb0 => ?_) (fun hb0 => ?_)
  · rw [mkl_len] at hb0
    try simp only [decide_eq_true_eq, decide_eq_false_iff_not, Bool.not_eq_true', Bool.not_eq_false', beq_iff_eq, bne_iff_ne, beq_eq_false_iff_ne, bne_eq_false_iff_eq, ne_eq, gt_iff_lt, ge_iff_le, Int.not_lt, Int.not_le, Decidable.not_not, Int.toNat_natCast, Int.ofNat_lt, Int.ofNat_le, Nat.not_lt, Nat.not_le] at hb0
    have hg := mkl_getD (mk := mku8) (mn := (fun _ => 1)) (k := k0) (d := dfl .u8) hb0
    have hms := mnl_step (mn := (fun _ => 1)) l (dfl .u8) k hb0
    have hml := mnl_le (mn := (fun _ => 1)) l (k + 1)
    have hlen : (mkl mku8 (fun _ => 1) k0 l).length = l.length := mkl_len
    generalize l.getD k (dfl .u8) = e at hg hms
    refine W.skip ?_
    refine W.seq ?_
    refine W.block ?_
    refine W.seq ?_
    refine W.seq ?_
    refine W.reg X [] [] [0, 1, 5, 18] [] rfl (by (repeat' (first | exact True.intro | apply And.intro)) <;> first | (intros; omega) | exact rfl | exact El_all _ (by decide) | exact (u8w _).1 | exact (u8w _).2 | exact (u8n _).1 | exact (u8n _).2 | (simp only [byt, maxLen, List.length_append, List.length_singleton, List.length_cons, List.length_nil, List.length_replicate, List.length_set]; omega) | (intros; simp only [decide_eq_true_eq, decide_eq_false_iff_not, Bool.not_eq_true', Bool.not_eq_false', beq_iff_eq, bne_iff_ne, beq_eq_false_iff_ne, bne_eq_false_iff_eq, ne_eq, gt_iff_lt, ge_iff_le, Int.not_lt, Int.not_le, Decidable.not_not, Int.toNat_natCast, Int.ofNat_lt, Int.ofNat_le, Nat.not_lt, Nat.not_le] at *; omega)) ?_
    refine W.cond rfl (fun hb1 => ?_) (fun hb1 => ?_)
    · exact absurd hb1 (by first | (simp only [decide_eq_true_eq]; omega) | (simp only [Int.toNat_natCast, hg]; simp; done) | (simp only [Int.toNat_natCast, hg, mku8, u8_rt]; simp))
    · clear hb1
      refine W.skip ?_
      refine W.reg X [] [] [0, 1, 5] [] rfl (by (repeat' (first | exact True.intro | apply And.intro)) <;> first | (intros; omega) | exact rfl | exact El_all _ (by decide) | exact (u8w _).1 | exact (u8w _).2 | exact (u8n _).1 | exact (u8n _).2 | (simp only [byt, maxLen, List.length_append, List.length_singleton, List.length_cons, List.length_nil, List.length_replicate, List.length_set]; omega) | (intros; simp only [decide_eq_true_eq, decide_eq_false_iff_not, Bool.not_eq_true', Bool.not_eq_false', beq_iff_eq, bne_iff_ne, beq_eq_false_iff_ne, bne_eq_false_iff_eq, ne_eq, gt_iff_lt, ge_iff_le, Int.not_lt, Int.not_le, Decidable.not_not, Int.toNat_natCast, Int.ofNat_lt, Int.ofNat_le, Nat.not_lt, Nat.not_le] at *; omega)) ?_
      rw [IntWalk.i64_in ((k0 + (mnl (fun _ => 1) (l.take k) : Nat)) + 1) (by omega)]
      refine W.reg X [] [] [0, 1, 5] [] rfl (by (repeat' (first | exact True.intro | apply And.intro)) <;> first | (intros; omega) | exact rfl | exact El_all _ (by decide) | exact (u8w _).1 | exact (u8w _).2 | exact (u8n _).1 | exact (u8n _).2 | (simp only [byt, maxLen, List.length_append, List.length_singleton, List.length_cons, List.length_nil, List.length_replicate, List.length_set]; omega) | (intros; simp only [decide_eq_true_eq, decide_eq_false_iff_not, Bool.not_eq_true', Bool.not_eq_false', beq_iff_eq, bne_iff_ne, beq_eq_false_iff_ne, bne_eq_false_iff_eq, ne_eq, gt_iff_lt, ge_iff_le, Int.not_lt, Int.not_le, Decidable.not_not, Int.toNat_natCast, Int.ofNat_lt, Int.ofNat_le, Nat.not_lt, Nat.not_le] at *; omega)) ?_
      refine ⟨k + 1, by omega, by omega, ?_⟩
      rw [wadd _ k rfl (by omega), show (k0 + (mnl (fun _ => 1) (l.take k) : Nat)) + 1 = k0 + (mnl (fun _ => 1) (l.take (k + 1)) : Nat) by omega]
      try rfl
  · rw [mkl_len] at hb0
    try simp only [decide_eq_true_eq, decide_eq_false_iff_not, Bool.not_eq_true', Bool.not_eq_false', beq_iff_eq, bne_iff_ne, beq_eq_false_iff_ne, bne_eq_false_iff_eq, ne_eq, gt_iff_lt, ge_iff_le, Int.not_lt, Int.not_le, Decidable.not_not, Int.toNat_natCast, Int.ofNat_lt, Int.ofNat_le, Nat.not_lt, Nat.not_le] at hb0
    refine W.exit ?_
    refine W.seq ?_
    refine W.reg X [] [] [4] [] rfl (by (repeat' (first | exact True.intro | apply And.intro)) <;> first | (intros; omega) | exact rfl | exact El_all _ (by decide) | exact (u8w _).1 | exact (u8w _).2 | exact (u8n _).1 | exact (u8n _).2 | (simp only [byt, maxLen, List.length_append, List.length_singleton, List.length_cons, List.length_nil, List.length_replicate, List.length_set]; omega) | (intros; simp only [decide_eq_true_eq, decide_eq_false_iff_not, Bool.not_eq_true', Bool.not_eq_false', beq_iff_eq, bne_iff_ne, beq_eq_false_iff_ne, bne_eq_false_iff_eq, ne_eq, gt_iff_lt, ge_iff_le, Int.not_lt, Int.not_le, Decidable.not_not, Int.toNat_natCast, Int.ofNat_lt, Int.ofNat_le, Nat.not_lt, Nat.not_le] at *; omega)) ?_
    refine W.ret ?_
    exact Fin.ret rfl ⟨by rw [List.take_of_length_le (by omega)], ⟨⟩⟩
theorem c_heldByteSS (l : (List (List UInt8))) (k0 : Int) (h0 : 0 ≤ k0) (h1 : k0 + ((mnl (mnl (fun _ => 1))) l : Nat) ≤ 1099511627776) : Sound ty Try.prog 31 [.a (.sl (.sl .u8) ((mkl (mkl mku8 (fun _ => 1)) (mnl (fun _ => 1))) k0 l)), .a (.lit (.int .i64 k0))] [.a (.lit (.int .i64 (k0 + ((mnl (mnl (fun _ => 1))) l : Nat))))] := by
  refine Sound.of X Try.call31 Try.func31 rfl rfl (by decide) Try.ntmps31 (by simp) ?_
  intro zb
  refine W.bound 0 rfl fun hl => ?_
  rw [mkl_len] at hl
  refine W.seq ?_
  refine W.reg X [] [] [0, 1] [] rfl (by (repeat' (first | exact True.intro | apply And.intro)) <;> first | (intros; omega) | exact rfl | exact El_all _ (by decide) | exact (u8w _).1 | exact (u8w _).2 | exact (u8n _).1 | exact (u8n _).2 | (simp only [byt, maxLen, List.length_append, List.length_singleton, List.length_cons, List.length_nil, List.length_replicate, List.length_set]; omega) | (intros; simp only [decide_eq_true_eq, decide_eq_false_iff_not, Bool.not_eq_true', Bool.not_eq_false', beq_iff_eq, bne_iff_ne, beq_eq_false_iff_ne, bne_eq_false_iff_eq, ne_eq, gt_iff_lt, ge_iff_le, Int.not_lt, Int.not_le, Decidable.not_not, Int.toNat_natCast, Int.ofNat_lt, Int.ofNat_le, Nat.not_lt, Nat.not_le] at *; omega)) ?_
  refine W.seq ?_
  refine W.seq ?_
  refine W.reg X [] [] [0, 1, 5] [] rfl (by (repeat' (first | exact True.intro | apply And.intro)) <;> first | (intros; omega) | exact rfl | exact El_all _ (by decide) | exact (u8w _).1 | exact (u8w _).2 | exact (u8n _).1 | exact (u8n _).2 | (simp only [byt, maxLen, List.length_append, List.length_singleton, List.length_cons, List.length_nil, List.length_replicate, List.length_set]; omega) | (intros; simp only [decide_eq_true_eq, decide_eq_false_iff_not, Bool.not_eq_true', Bool.not_eq_false', beq_iff_eq, bne_iff_ne, beq_eq_false_iff_ne, bne_eq_false_iff_eq, ne_eq, gt_iff_lt, ge_iff_le, Int.not_lt, Int.not_le, Decidable.not_not, Int.toNat_natCast, Int.ofNat_lt, Int.ofNat_le, Nat.not_lt, Nat.not_le] at *; omega)) ?_
  refine W.block ?_
  refine W.loopO (fun k => k ≤ l.length) (fun k : Nat => [(1, .one (.a (.lit (.int .i64 (k0 + (mnl (mnl (fun _ => 1)) (l.take k) : Nat)))))), (5, .one (.a (.lit (.int .i64 k))))]) (fun k => []) (fun k => l.length - k) 0 (fun k => rfl) (Nat.zero_le _) (by simp [mnl]) ?_
  intro k hk
  refine W.seq ?_
  refine W.seq ?_
  refine W.reg X [] [] [0, 1, 5, 9] [] rfl (by (repeat' (first | exact True.intro | apply And.intro)) <;> first | (intros; omega) | exact rfl | exact El_all _ (by decide) | exact (u8w _).1 | exact (u8w _).2 | exact (u8n _).1 | exact (u8n _).2 | (simp only [byt, maxLen, List.length_append, List.length_singleton, List.length_cons, List.length_nil, List.length_replicate, List.length_set]; omega) | (intros; simp only [decide_eq_true_eq, decide_eq_false_iff_not, Bool.not_eq_true', Bool.not_eq_false', beq_iff_eq, bne_iff_ne, beq_eq_false_iff_ne, bne_eq_false_iff_eq, ne_eq, gt_iff_lt, ge_iff_le, Int.not_lt, Int.not_le, Decidable.not_not, Int.toNat_natCast, Int.ofNat_lt, Int.ofNat_le, Nat.not_lt, Nat.not_le] at *; omega)) ?_
  refine W.cond rfl (fun hb0 => ?_) (fun hb0 => ?_)
  · rw [mkl_len] at hb0
    try simp only [decide_eq_true_eq, decide_eq_false_iff_not, Bool.not_eq_true', Bool.not_eq_false', beq_iff_eq, bne_iff_ne, beq_eq_false_iff_ne, bne_eq_false_iff_eq, ne_eq, gt_iff_lt, ge_iff_le, Int.not_lt, Int.not_le, Decidable.not_not, Int.toNat_natCast, Int.ofNat_lt, Int.ofNat_le, Nat.not_lt, Nat.not_le] at hb0
    have hg := mkl_getD (mk := (mkl mku8 (fun _ => 1))) (mn := (mnl (fun _ => 1))) (k := k0) (d := dfl (.sl .u8)) hb0
    have hms := mnl_step (mn := (mnl (fun _ => 1))) l (dfl (.sl .u8)) k hb0
    have hml := mnl_le (mn := (mnl (fun _ => 1))) l (k + 1)
    have hlen : (mkl (mkl mku8 (fun _ => 1)) (mnl (fun _ => 1)) k0 l).length = l.length := mkl_len
    generalize l.getD k (dfl (.sl .u8)) = e at hg hms
    refine W.skip ?_
    refine W.seq ?_
    refine W.block ?_
    refine W.seq ?_
    refine W.reg X [] [(17, ⟨false, [.a (.lit (.int .i64 ((k0 + (mnl (mnl (fun _ => 1)) (l.take k) : Nat)) + ((mnl (fun _ => 1)) e : Nat))))]⟩)] [0, 1, 5] [] rfl (by (repeat' (first | exact True.intro | exact c_heldByteS e ((k0 + (mnl (mnl (fun _ => 1)) (l.take k) : Nat))) (by omega) (by omega) | (simp only [Int.toNat_natCast, hg]; exact c_heldByteS e ((k0 + (mnl (mnl (fun _ => 1)) (l.take k) : Nat))) (by omega) (by omega)) | apply And.intro)) <;> first | (intros; omega) | exact rfl | exact El_all _ (by decide) | exact (u8w _).1 | exact (u8w _).2 | exact (u8n _).1 | exact (u8n _).2 | (simp only [byt, maxLen, List.length_append, List.length_singleton, List.length_cons, List.length_nil, List.length_replicate, List.length_set]; omega) | (intros; simp only [decide_eq_true_eq, decide_eq_false_iff_not, Bool.not_eq_true', Bool.not_eq_false', beq_iff_eq, bne_iff_ne, beq_eq_false_iff_ne, bne_eq_false_iff_eq, ne_eq, gt_iff_lt, ge_iff_le, Int.not_lt, Int.not_le, Decidable.not_not, Int.toNat_natCast, Int.ofNat_lt, Int.ofNat_le, Nat.not_lt, Nat.not_le] at *; omega)) ?_
    refine W.seq ?_
    refine W.reg X [] [] [0, 1, 5, 19] [] rfl (by (repeat' (first | exact True.intro | apply And.intro)) <;> first | (intros; omega) | exact rfl | exact El_all _ (by decide) | exact (u8w _).1 | exact (u8w _).2 | exact (u8n _).1 | exact (u8n _).2 | (simp only [byt, maxLen, List.length_append, List.length_singleton, List.length_cons, List.length_nil, List.length_replicate, List.length_set]; omega) | (intros; simp only [decide_eq_true_eq, decide_eq_false_iff_not, Bool.not_eq_true', Bool.not_eq_false', beq_iff_eq, bne_iff_ne, beq_eq_false_iff_ne, bne_eq_false_iff_eq, ne_eq, gt_iff_lt, ge_iff_le, Int.not_lt, Int.not_le, Decidable.not_not, Int.toNat_natCast, Int.ofNat_lt, Int.ofNat_le, Nat.not_lt, Nat.not_le] at *; omega)) ?_
    refine W.cond rfl (fun hb1 => ?_) (fun hb1 => ?_)
    · exact absurd hb1 (by first | (simp only [decide_eq_true_eq]; omega) | (simp only [Int.toNat_natCast, hg]; simp; done) | (simp only [Int.toNat_natCast, hg, mku8, u8_rt]; simp))
    · clear hb1
      refine W.skip ?_
      refine W.reg X [] [] [0, 1, 5] [] rfl (by (repeat' (first | exact True.intro | apply And.intro)) <;> first | (intros; omega) | exact rfl | exact El_all _ (by decide) | exact (u8w _).1 | exact (u8w _).2 | exact (u8n _).1 | exact (u8n _).2 | (simp only [byt, maxLen, List.length_append, List.length_singleton, List.length_cons, List.length_nil, List.length_replicate, List.length_set]; omega) | (intros; simp only [decide_eq_true_eq, decide_eq_false_iff_not, Bool.not_eq_true', Bool.not_eq_false', beq_iff_eq, bne_iff_ne, beq_eq_false_iff_ne, bne_eq_false_iff_eq, ne_eq, gt_iff_lt, ge_iff_le, Int.not_lt, Int.not_le, Decidable.not_not, Int.toNat_natCast, Int.ofNat_lt, Int.ofNat_le, Nat.not_lt, Nat.not_le] at *; omega)) ?_
      refine ⟨k + 1, by omega, by omega, ?_⟩
      rw [wadd _ k rfl (by omega), show (k0 + (mnl (mnl (fun _ => 1)) (l.take k) : Nat)) + ((mnl (fun _ => 1)) e : Nat) = k0 + (mnl (mnl (fun _ => 1)) (l.take (k + 1)) : Nat) by omega]
      try rfl
  · rw [mkl_len] at hb0
    try simp only [decide_eq_true_eq, decide_eq_false_iff_not, Bool.not_eq_true', Bool.not_eq_false', beq_iff_eq, bne_iff_ne, beq_eq_false_iff_ne, bne_eq_false_iff_eq, ne_eq, gt_iff_lt, ge_iff_le, Int.not_lt, Int.not_le, Decidable.not_not, Int.toNat_natCast, Int.ofNat_lt, Int.ofNat_le, Nat.not_lt, Nat.not_le] at hb0
    refine W.exit ?_
    refine W.seq ?_
    refine W.reg X [] [] [4] [] rfl (by (repeat' (first | exact True.intro | apply And.intro)) <;> first | (intros; omega) | exact rfl | exact El_all _ (by decide) | exact (u8w _).1 | exact (u8w _).2 | exact (u8n _).1 | exact (u8n _).2 | (simp only [byt, maxLen, List.length_append, List.length_singleton, List.length_cons, List.length_nil, List.length_replicate, List.length_set]; omega) | (intros; simp only [decide_eq_true_eq, decide_eq_false_iff_not, Bool.not_eq_true', Bool.not_eq_false', beq_iff_eq, bne_iff_ne, beq_eq_false_iff_ne, bne_eq_false_iff_eq, ne_eq, gt_iff_lt, ge_iff_le, Int.not_lt, Int.not_le, Decidable.not_not, Int.toNat_natCast, Int.ofNat_lt, Int.ofNat_le, Nat.not_lt, Nat.not_le] at *; omega)) ?_
    refine W.ret ?_
    exact Fin.ret rfl ⟨by rw [List.take_of_length_le (by omega)], ⟨⟩⟩
end Go.Proofs.Ythlflnplnajjiaa.G
