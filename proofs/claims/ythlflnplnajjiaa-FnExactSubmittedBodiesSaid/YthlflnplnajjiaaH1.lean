/-
  Contracts of the laws' own functions by the symbolic machine: sz.. of every type.
-/
import Derived.Test.YthlflnplnajjiaaH0
namespace Go.Proofs.Ythlflnplnajjiaa.G
set_option linter.all false
open Go.RowKit L D
set_option maxRecDepth 100000
theorem c_szByteS (l : (List UInt8)) (left : Int) (h0 : 0 ≤ left) (h1 : left ≤ 1048576) : Sound ty Try.prog 44 [.a (.sl .u8 l), .a (.lit (.int .i64 left))] [.a (.lit (.int .i64 (szr left (List.length l))))] := by
  refine Sound.of X Try.call44 Try.func44 rfl rfl (by decide) Try.ntmps44 (by simp) ?_
  intro zb
  refine W.bound 0 rfl fun hl => ?_
  refine W.seq ?_
  refine W.reg X [] [] [0, 1] [] rfl (by (repeat' (first | exact True.intro | apply And.intro)) <;> first | (intros; omega) | exact rfl | exact El_all _ (by decide) | exact (u8w _).1 | exact (u8w _).2 | exact (u8n _).1 | exact (u8n _).2 | (simp only [byt, maxLen, List.length_append, List.length_singleton, List.length_cons, List.length_nil, List.length_replicate, List.length_set]; omega) | (intros; simp only [decide_eq_true_eq, decide_eq_false_iff_not, Bool.not_eq_true', Bool.not_eq_false', beq_iff_eq, bne_iff_ne, beq_eq_false_iff_ne, bne_eq_false_iff_eq, ne_eq, gt_iff_lt, ge_iff_le, Int.not_lt, Int.not_le, Decidable.not_not, Int.toNat_natCast, Int.ofNat_lt, Int.ofNat_le, Nat.not_lt, Nat.not_le] at *; omega)) ?_
  refine W.seq ?_
  refine W.reg X [] [] [1] [] rfl (by (repeat' (first | exact True.intro | apply And.intro)) <;> first | (intros; omega) | exact rfl | exact El_all _ (by decide) | exact (u8w _).1 | exact (u8w _).2 | exact (u8n _).1 | exact (u8n _).2 | (simp only [byt, maxLen, List.length_append, List.length_singleton, List.length_cons, List.length_nil, List.length_replicate, List.length_set]; omega) | (intros; simp only [decide_eq_true_eq, decide_eq_false_iff_not, Bool.not_eq_true', Bool.not_eq_false', beq_iff_eq, bne_iff_ne, beq_eq_false_iff_ne, bne_eq_false_iff_eq, ne_eq, gt_iff_lt, ge_iff_le, Int.not_lt, Int.not_le, Decidable.not_not, Int.toNat_natCast, Int.ofNat_lt, Int.ofNat_le, Nat.not_lt, Nat.not_le] at *; omega)) ?_
  rw [IntWalk.i64_in (left - (l.length : Nat)) (by omega)]
  refine W.seq ?_
  refine W.seq ?_
  refine W.reg X [] [] [1, 10] [] rfl (by (repeat' (first | exact True.intro | apply And.intro)) <;> first | (intros; omega) | exact rfl | exact El_all _ (by decide) | exact (u8w _).1 | exact (u8w _).2 | exact (u8n _).1 | exact (u8n _).2 | (simp only [byt, maxLen, List.length_append, List.length_singleton, List.length_cons, List.length_nil, List.length_replicate, List.length_set]; omega) | (intros; simp only [decide_eq_true_eq, decide_eq_false_iff_not, Bool.not_eq_true', Bool.not_eq_false', beq_iff_eq, bne_iff_ne, beq_eq_false_iff_ne, bne_eq_false_iff_eq, ne_eq, gt_iff_lt, ge_iff_le, Int.not_lt, Int.not_le, Decidable.not_not, Int.toNat_natCast, Int.ofNat_lt, Int.ofNat_le, Nat.not_lt, Nat.not_le] at *; omega)) ?_
  refine W.cond rfl (fun hb0 => ?_) (fun hb0 => ?_)
  · try simp only [decide_eq_true_eq, decide_eq_false_iff_not, Bool.not_eq_true', Bool.not_eq_false', beq_iff_eq, bne_iff_ne, beq_eq_false_iff_ne, bne_eq_false_iff_eq, ne_eq, gt_iff_lt, ge_iff_le, Int.not_lt, Int.not_le, Decidable.not_not, Int.toNat_natCast, Int.ofNat_lt, Int.ofNat_le, Nat.not_lt, Nat.not_le] at hb0
    refine W.seq ?_
    refine W.reg X [] [] [4] [] rfl (by (repeat' (first | exact True.intro | apply And.intro)) <;> first | (intros; omega) | exact rfl | exact El_all _ (by decide) | exact (u8w _).1 | exact (u8w _).2 | exact (u8n _).1 | exact (u8n _).2 | (simp only [byt, maxLen, List.length_append, List.length_singleton, List.length_cons, List.length_nil, List.length_replicate, List.length_set]; omega) | (intros; simp only [decide_eq_true_eq, decide_eq_false_iff_not, Bool.not_eq_true', Bool.not_eq_false', beq_iff_eq, bne_iff_ne, beq_eq_false_iff_ne, bne_eq_false_iff_eq, ne_eq, gt_iff_lt, ge_iff_le, Int.not_lt, Int.not_le, Decidable.not_not, Int.toNat_natCast, Int.ofNat_lt, Int.ofNat_le, Nat.not_lt, Nat.not_le] at *; omega)) ?_
    refine W.ret ?_
    exact Fin.ret rfl ⟨by rw [szr_lt (by omega)], ⟨⟩⟩
  · try simp only [decide_eq_true_eq, decide_eq_false_iff_not, Bool.not_eq_true', Bool.not_eq_false', beq_iff_eq, bne_iff_ne, beq_eq_false_iff_ne, bne_eq_false_iff_eq, ne_eq, gt_iff_lt, ge_iff_le, Int.not_lt, Int.not_le, Decidable.not_not, Int.toNat_natCast, Int.ofNat_lt, Int.ofNat_le, Nat.not_lt, Nat.not_le] at hb0
    refine W.skip ?_
    refine W.seq ?_
    refine W.reg X [] [] [4] [] rfl (by (repeat' (first | exact True.intro | apply And.intro)) <;> first | (intros; omega) | exact rfl | exact El_all _ (by decide) | exact (u8w _).1 | exact (u8w _).2 | exact (u8n _).1 | exact (u8n _).2 | (simp only [byt, maxLen, List.length_append, List.length_singleton, List.length_cons, List.length_nil, List.length_replicate, List.length_set]; omega) | (intros; simp only [decide_eq_true_eq, decide_eq_false_iff_not, Bool.not_eq_true', Bool.not_eq_false', beq_iff_eq, bne_iff_ne, beq_eq_false_iff_ne, bne_eq_false_iff_eq, ne_eq, gt_iff_lt, ge_iff_le, Int.not_lt, Int.not_le, Decidable.not_not, Int.toNat_natCast, Int.ofNat_lt, Int.ofNat_le, Nat.not_lt, Nat.not_le] at *; omega)) ?_
    refine W.ret ?_
    exact Fin.ret rfl ⟨by rw [szr_ge (by omega)], ⟨⟩⟩
theorem c_szEvent (x : Ev) (left : Int) (h0 : 0 ≤ left) (h1 : left ≤ 1048576) : Sound ty Try.prog 36 [.agg (dec_Ev x), .a (.lit (.int .i64 left))] [.a (.lit (.int .i64 (szr left (size_Ev x))))] := by
  refine Sound.of X Try.call36 Try.func36 rfl rfl (by decide) Try.ntmps36 (by simp) ?_
  intro zb
  refine W.seq ?_
  refine W.reg X [] [] [1, 2] [] rfl (by (repeat' (first | exact True.intro | apply And.intro)) <;> first | (intros; omega) | exact rfl | exact El_all _ (by decide) | exact (u8w _).1 | exact (u8w _).2 | exact (u8n _).1 | exact (u8n _).2 | (simp only [byt, maxLen, List.length_append, List.length_singleton, List.length_cons, List.length_nil, List.length_replicate, List.length_set]; omega) | (intros; simp only [decide_eq_true_eq, decide_eq_false_iff_not, Bool.not_eq_true', Bool.not_eq_false', beq_iff_eq, bne_iff_ne, beq_eq_false_iff_ne, bne_eq_false_iff_eq, ne_eq, gt_iff_lt, ge_iff_le, Int.not_lt, Int.not_le, Decidable.not_not, Int.toNat_natCast, Int.ofNat_lt, Int.ofNat_le, Nat.not_lt, Nat.not_le] at *; omega)) ?_
  refine W.seq ?_
  refine W.reg X [] [(8, ⟨false, [.a (.lit (.int .i64 (szr (left) (List.length x.body))))]⟩)] [1] [] rfl ⟨c_szByteS x.body (left) (by omega) (by omega), ⟨⟩⟩ ?_
  refine W.seq ?_
  refine W.seq ?_
  refine W.reg X [] [] [1, 10] [] rfl (by (repeat' (first | exact True.intro | apply And.intro)) <;> first | (intros; omega) | exact rfl | exact El_all _ (by decide) | exact (u8w _).1 | exact (u8w _).2 | exact (u8n _).1 | exact (u8n _).2 | (simp only [byt, maxLen, List.length_append, List.length_singleton, List.length_cons, List.length_nil, List.length_replicate, List.length_set]; omega) | (intros; simp only [decide_eq_true_eq, decide_eq_false_iff_not, Bool.not_eq_true', Bool.not_eq_false', beq_iff_eq, bne_iff_ne, beq_eq_false_iff_ne, bne_eq_false_iff_eq, ne_eq, gt_iff_lt, ge_iff_le, Int.not_lt, Int.not_le, Decidable.not_not, Int.toNat_natCast, Int.ofNat_lt, Int.ofNat_le, Nat.not_lt, Nat.not_le] at *; omega)) ?_
  refine W.cond rfl (fun hb0 => ?_) (fun hb0 => ?_)
  · try simp only [decide_eq_true_eq, decide_eq_false_iff_not, Bool.not_eq_true', Bool.not_eq_false', beq_iff_eq, bne_iff_ne, beq_eq_false_iff_ne, bne_eq_false_iff_eq, ne_eq, gt_iff_lt, ge_iff_le, Int.not_lt, Int.not_le, Decidable.not_not, Int.toNat_natCast, Int.ofNat_lt, Int.ofNat_le, Nat.not_lt, Nat.not_le] at hb0
    refine W.seq ?_
    refine W.reg X [] [] [4] [] rfl (by (repeat' (first | exact True.intro | apply And.intro)) <;> first | (intros; omega) | exact rfl | exact El_all _ (by decide) | exact (u8w _).1 | exact (u8w _).2 | exact (u8n _).1 | exact (u8n _).2 | (simp only [byt, maxLen, List.length_append, List.length_singleton, List.length_cons, List.length_nil, List.length_replicate, List.length_set]; omega) | (intros; simp only [decide_eq_true_eq, decide_eq_false_iff_not, Bool.not_eq_true', Bool.not_eq_false', beq_iff_eq, bne_iff_ne, beq_eq_false_iff_ne, bne_eq_false_iff_eq, ne_eq, gt_iff_lt, ge_iff_le, Int.not_lt, Int.not_le, Decidable.not_not, Int.toNat_natCast, Int.ofNat_lt, Int.ofNat_le, Nat.not_lt, Nat.not_le] at *; omega)) ?_
    refine W.ret ?_
    exact Fin.ret rfl ⟨by rw [szr_lt (by have := szr_neg (by omega) hb0; unfold size_Ev; omega)], ⟨⟩⟩
  · try simp only [decide_eq_true_eq, decide_eq_false_iff_not, Bool.not_eq_true', Bool.not_eq_false', beq_iff_eq, bne_iff_ne, beq_eq_false_iff_ne, bne_eq_false_iff_eq, ne_eq, gt_iff_lt, ge_iff_le, Int.not_lt, Int.not_le, Decidable.not_not, Int.toNat_natCast, Int.ofNat_lt, Int.ofNat_le, Nat.not_lt, Nat.not_le] at hb0
    obtain ⟨e0, e0'⟩ := szr_pos hb0
    rw [e0]
    refine W.skip ?_
    refine W.seq ?_
    refine W.reg X [] [] [4] [] rfl (by (repeat' (first | exact True.intro | apply And.intro)) <;> first | (intros; omega) | exact rfl | exact El_all _ (by decide) | exact (u8w _).1 | exact (u8w _).2 | exact (u8n _).1 | exact (u8n _).2 | (simp only [byt, maxLen, List.length_append, List.length_singleton, List.length_cons, List.length_nil, List.length_replicate, List.length_set]; omega) | (intros; simp only [decide_eq_true_eq, decide_eq_false_iff_not, Bool.not_eq_true', Bool.not_eq_false', beq_iff_eq, bne_iff_ne, beq_eq_false_iff_ne, bne_eq_false_iff_eq, ne_eq, gt_iff_lt, ge_iff_le, Int.not_lt, Int.not_le, Decidable.not_not, Int.toNat_natCast, Int.ofNat_lt, Int.ofNat_le, Nat.not_lt, Nat.not_le] at *; omega)) ?_
    refine W.ret ?_
    exact Fin.ret rfl ⟨by rw [szr_ge (by unfold size_Ev; omega)]; first | done | (congr 1; done) | (congr 1; unfold size_Ev; omega), ⟨⟩⟩
theorem c_szEventS (l : (List Ev)) (left : Int) (h0 : 0 ≤ left) (h1 : left ≤ 1048576) : Sound ty Try.prog 21 [.a (.sl .Ev l), .a (.lit (.int .i64 left))] [.a (.lit (.int .i64 (szr left ((lsz size_Ev) l))))] := by
  refine Sound.of X Try.call21 Try.func21 rfl rfl (by decide) Try.ntmps21 (by simp) ?_
  intro zb
  refine W.bound 0 rfl fun hl => ?_
  refine W.seq ?_
  refine W.reg X [] [] [0, 1] [] rfl (by (repeat' (first | exact True.intro | apply And.intro)) <;> first | (intros; omega) | exact rfl | exact El_all _ (by decide) | exact (u8w _).1 | exact (u8w _).2 | exact (u8n _).1 | exact (u8n _).2 | (simp only [byt, maxLen, List.length_append, List.length_singleton, List.length_cons, List.length_nil, List.length_replicate, List.length_set]; omega) | (intros; simp only [decide_eq_true_eq, decide_eq_false_iff_not, Bool.not_eq_true', Bool.not_eq_false', beq_iff_eq, bne_iff_ne, beq_eq_false_iff_ne, bne_eq_false_iff_eq, ne_eq, gt_iff_lt, ge_iff_le, Int.not_lt, Int.not_le, Decidable.not_not, Int.toNat_natCast, Int.ofNat_lt, Int.ofNat_le, Nat.not_lt, Nat.not_le] at *; omega)) ?_
  refine W.seq ?_
  refine W.reg X [] [] [0, 1] [] rfl (by (repeat' (first | exact True.intro | apply And.intro)) <;> first | (intros; omega) | exact rfl | exact El_all _ (by decide) | exact (u8w _).1 | exact (u8w _).2 | exact (u8n _).1 | exact (u8n _).2 | (simp only [byt, maxLen, List.length_append, List.length_singleton, List.length_cons, List.length_nil, List.length_replicate, List.length_set]; omega) | (intros; simp only [decide_eq_true_eq, decide_eq_false_iff_not, Bool.not_eq_true', Bool.not_eq_false', beq_iff_eq, bne_iff_ne, beq_eq_false_iff_ne, bne_eq_false_iff_eq, ne_eq, gt_iff_lt, ge_iff_le, Int.not_lt, Int.not_le, Decidable.not_not, Int.toNat_natCast, Int.ofNat_lt, Int.ofNat_le, Nat.not_lt, Nat.not_le] at *; omega)) ?_
  rw [IntWalk.i64_in (left - (l.length : Nat)) (by omega)]
  refine W.seq ?_
  refine W.seq ?_
  refine W.reg X [] [] [0, 1, 11] [] rfl (by (repeat' (first | exact True.intro | apply And.intro)) <;> first | (intros; omega) | exact rfl | exact El_all _ (by decide) | exact (u8w _).1 | exact (u8w _).2 | exact (u8n _).1 | exact (u8n _).2 | (simp only [byt, maxLen, List.length_append, List.length_singleton, List.length_cons, List.length_nil, List.length_replicate, List.length_set]; omega) | (intros; simp only [decide_eq_true_eq, decide_eq_false_iff_not, Bool.not_eq_true', Bool.not_eq_false', beq_iff_eq, bne_iff_ne, beq_eq_false_iff_ne, bne_eq_false_iff_eq, ne_eq, gt_iff_lt, ge_iff_le, Int.not_lt, Int.not_le, Decidable.not_not, Int.toNat_natCast, Int.ofNat_lt, Int.ofNat_le, Nat.not_lt, Nat.not_le] at *; omega)) ?_
  refine W.cond rfl (fun hb0 => ?_) (fun hb0 => ?_)
  · try simp only [decide_eq_true_eq, decide_eq_false_iff_not, Bool.not_eq_true', Bool.not_eq_false', beq_iff_eq, bne_iff_ne, beq_eq_false_iff_ne, bne_eq_false_iff_eq, ne_eq, gt_iff_lt, ge_iff_le, Int.not_lt, Int.not_le, Decidable.not_not, Int.toNat_natCast, Int.ofNat_lt, Int.ofNat_le, Nat.not_lt, Nat.not_le] at hb0
    refine W.seq ?_
    refine W.reg X [] [] [4] [] rfl (by (repeat' (first | exact True.intro | apply And.intro)) <;> first | (intros; omega) | exact rfl | exact El_all _ (by decide) | exact (u8w _).1 | exact (u8w _).2 | exact (u8n _).1 | exact (u8n _).2 | (simp only [byt, maxLen, List.length_append, List.length_singleton, List.length_cons, List.length_nil, List.length_replicate, List.length_set]; omega) | (intros; simp only [decide_eq_true_eq, decide_eq_false_iff_not, Bool.not_eq_true', Bool.not_eq_false', beq_iff_eq, bne_iff_ne, beq_eq_false_iff_ne, bne_eq_false_iff_eq, ne_eq, gt_iff_lt, ge_iff_le, Int.not_lt, Int.not_le, Decidable.not_not, Int.toNat_natCast, Int.ofNat_lt, Int.ofNat_le, Nat.not_lt, Nat.not_le] at *; omega)) ?_
    refine W.ret ?_
    exact Fin.ret rfl ⟨by rw [szr_lt (by unfold lsz; omega)], ⟨⟩⟩
  · try simp only [decide_eq_true_eq, decide_eq_false_iff_not, Bool.not_eq_true', Bool.not_eq_false', beq_iff_eq, bne_iff_ne, beq_eq_false_iff_ne, bne_eq_false_iff_eq, ne_eq, gt_iff_lt, ge_iff_le, Int.not_lt, Int.not_le, Decidable.not_not, Int.toNat_natCast, Int.ofNat_lt, Int.ofNat_le, Nat.not_lt, Nat.not_le] at hb0
    refine W.skip ?_
    refine W.seq ?_
    refine W.seq ?_
    refine W.reg X [] [] [0, 1, 5] [] rfl (by (repeat' (first | exact True.intro | apply And.intro)) <;> first | (intros; omega) | exact rfl | exact El_all _ (by decide) | exact (u8w _).1 | exact (u8w _).2 | exact (u8n _).1 | exact (u8n _).2 | (simp only [byt, maxLen, List.length_append, List.length_singleton, List.length_cons, List.length_nil, List.length_replicate, List.length_set]; omega) | (intros; simp only [decide_eq_true_eq, decide_eq_false_iff_not, Bool.not_eq_true', Bool.not_eq_false', beq_iff_eq, bne_iff_ne, beq_eq_false_iff_ne, bne_eq_false_iff_eq, ne_eq, gt_iff_lt, ge_iff_le, Int.not_lt, Int.not_le, Decidable.not_not, Int.toNat_natCast, Int.ofNat_lt, Int.ofNat_le, Nat.not_lt, Nat.not_le] at *; omega)) ?_
    refine W.block ?_
    refine W.loopO (fun k => k ≤ l.length ∧ (l.length : Int) + (((l.take k).map size_Ev).sum : Nat) ≤ left) (fun k : Nat => [(1, .one (.a (.lit (.int .i64 (left - (l.length : Nat) - (((l.take k).map size_Ev).sum : Nat)))))), (5, .one (.a (.lit (.int .i64 k))))]) (fun k => []) (fun k => l.length - k) 0 (fun k => rfl) ⟨Nat.zero_le _, by simp; omega⟩ (by simp) ?_
    rintro k ⟨hk, hs⟩
    refine W.seq ?_
    refine W.seq ?_
    refine W.reg X [] [] [0, 1, 5, 15] [] rfl (by (repeat' (first | exact True.intro | apply And.intro)) <;> first | (intros; omega) | exact rfl | exact El_all _ (by decide) | exact (u8w _).1 | exact (u8w _).2 | exact (u8n _).1 | exact (u8n _).2 | (simp only [byt, maxLen, List.length_append, List.length_singleton, List.length_cons, List.length_nil, List.length_replicate, List.length_set]; omega) | (intros; simp only [decide_eq_true_eq, decide_eq_false_iff_not, Bool.not_eq_true', Bool.not_eq_false', beq_iff_eq, bne_iff_ne, beq_eq_false_iff_ne, bne_eq_false_iff_eq, ne_eq, gt_iff_lt, ge_iff_le, Int.not_lt, Int.not_le, Decidable.not_not, Int.toNat_natCast, Int.ofNat_lt, Int.ofNat_le, Nat.not_lt, Nat.not_le] at *; omega)) ?_
    refine W.cond rfl (fun hb1 => ?_) (fun hb1 => ?_)
    · try simp only [decide_eq_true_eq, decide_eq_false_iff_not, Bool.not_eq_true', Bool.not_eq_false', beq_iff_eq, bne_iff_ne, beq_eq_false_iff_ne, bne_eq_false_iff_eq, ne_eq, gt_iff_lt, ge_iff_le, Int.not_lt, Int.not_le, Decidable.not_not, Int.toNat_natCast, Int.ofNat_lt, Int.ofNat_le, Nat.not_lt, Nat.not_le] at hb1
      have hsum := sum_step size_Ev l (dfl .Ev) k hb1
      have hle := take_sum_le l size_Ev (k + 1)
      refine W.skip ?_
      refine W.seq ?_
      refine W.block ?_
      refine W.seq ?_
      refine W.reg X [] [(23, ⟨false, [.a (.lit (.int .i64 (szr (left - (l.length : Nat) - (((l.take k).map size_Ev).sum : Nat)) (size_Ev (l.getD k (dfl .Ev))))))]⟩)] [0, 1, 5] [] rfl ⟨c_szEvent (l.getD k (dfl .Ev)) _ (by omega) (by omega), by omega, ⟨⟩⟩ ?_
      refine W.seq ?_
      refine W.reg X [] [] [0, 1, 5, 25] [] rfl (by (repeat' (first | exact True.intro | apply And.intro)) <;> first | (intros; omega) | exact rfl | exact El_all _ (by decide) | exact (u8w _).1 | exact (u8w _).2 | exact (u8n _).1 | exact (u8n _).2 | (simp only [byt, maxLen, List.length_append, List.length_singleton, List.length_cons, List.length_nil, List.length_replicate, List.length_set]; omega) | (intros; simp only [decide_eq_true_eq, decide_eq_false_iff_not, Bool.not_eq_true', Bool.not_eq_false', beq_iff_eq, bne_iff_ne, beq_eq_false_iff_ne, bne_eq_false_iff_eq, ne_eq, gt_iff_lt, ge_iff_le, Int.not_lt, Int.not_le, Decidable.not_not, Int.toNat_natCast, Int.ofNat_lt, Int.ofNat_le, Nat.not_lt, Nat.not_le] at *; omega)) ?_
      refine W.cond rfl (fun hb2 => ?_) (fun hb2 => ?_)
      · try simp only [decide_eq_true_eq, decide_eq_false_iff_not, Bool.not_eq_true', Bool.not_eq_false', beq_iff_eq, bne_iff_ne, beq_eq_false_iff_ne, bne_eq_false_iff_eq, ne_eq, gt_iff_lt, ge_iff_le, Int.not_lt, Int.not_le, Decidable.not_not, Int.toNat_natCast, Int.ofNat_lt, Int.ofNat_le, Nat.not_lt, Nat.not_le] at hb2
        have hn := szr_neg (by omega) hb2
        refine W.seq ?_
        refine W.reg X [] [] [4] [] rfl (by (repeat' (first | exact True.intro | apply And.intro)) <;> first | (intros; omega) | exact rfl | exact El_all _ (by decide) | exact (u8w _).1 | exact (u8w _).2 | exact (u8n _).1 | exact (u8n _).2 | (simp only [byt, maxLen, List.length_append, List.length_singleton, List.length_cons, List.length_nil, List.length_replicate, List.length_set]; omega) | (intros; simp only [decide_eq_true_eq, decide_eq_false_iff_not, Bool.not_eq_true', Bool.not_eq_false', beq_iff_eq, bne_iff_ne, beq_eq_false_iff_ne, bne_eq_false_iff_eq, ne_eq, gt_iff_lt, ge_iff_le, Int.not_lt, Int.not_le, Decidable.not_not, Int.toNat_natCast, Int.ofNat_lt, Int.ofNat_le, Nat.not_lt, Nat.not_le] at *; omega)) ?_
        refine W.ret ?_
        exact Fin.ret rfl ⟨by rw [szr_lt (by unfold lsz; omega)], ⟨⟩⟩
      · try simp only [decide_eq_true_eq, decide_eq_false_iff_not, Bool.not_eq_true', Bool.not_eq_false', beq_iff_eq, bne_iff_ne, beq_eq_false_iff_ne, bne_eq_false_iff_eq, ne_eq, gt_iff_lt, ge_iff_le, Int.not_lt, Int.not_le, Decidable.not_not, Int.toNat_natCast, Int.ofNat_lt, Int.ofNat_le, Nat.not_lt, Nat.not_le] at hb2
        obtain ⟨e2, e3⟩ := szr_pos hb2
        rw [e2]
        refine W.skip ?_
        refine W.reg X [] [] [0, 1, 5] [] rfl (by (repeat' (first | exact True.intro | apply And.intro)) <;> first | (intros; omega) | exact rfl | exact El_all _ (by decide) | exact (u8w _).1 | exact (u8w _).2 | exact (u8n _).1 | exact (u8n _).2 | (simp only [byt, maxLen, List.length_append, List.length_singleton, List.length_cons, List.length_nil, List.length_replicate, List.length_set]; omega) | (intros; simp only [decide_eq_true_eq, decide_eq_false_iff_not, Bool.not_eq_true', Bool.not_eq_false', beq_iff_eq, bne_iff_ne, beq_eq_false_iff_ne, bne_eq_false_iff_eq, ne_eq, gt_iff_lt, ge_iff_le, Int.not_lt, Int.not_le, Decidable.not_not, Int.toNat_natCast, Int.ofNat_lt, Int.ofNat_le, Nat.not_lt, Nat.not_le] at *; omega)) ?_
        refine ⟨k + 1, ⟨by omega, by omega⟩, by omega, ?_⟩
        rw [wadd _ k rfl (by omega), show left - (l.length : Nat) - (((l.take k).map size_Ev).sum : Nat) - (size_Ev (l.getD k (dfl .Ev)) : Nat) = left - (l.length : Nat) - (((l.take (k + 1)).map size_Ev).sum : Nat) by omega]
    · try simp only [decide_eq_true_eq, decide_eq_false_iff_not, Bool.not_eq_true', Bool.not_eq_false', beq_iff_eq, bne_iff_ne, beq_eq_false_iff_ne, bne_eq_false_iff_eq, ne_eq, gt_iff_lt, ge_iff_le, Int.not_lt, Int.not_le, Decidable.not_not, Int.toNat_natCast, Int.ofNat_lt, Int.ofNat_le, Nat.not_lt, Nat.not_le] at hb1
      refine W.exit ?_
      refine W.seq ?_
      refine W.reg X [] [] [4] [] rfl (by (repeat' (first | exact True.intro | apply And.intro)) <;> first | (intros; omega) | exact rfl | exact El_all _ (by decide) | exact (u8w _).1 | exact (u8w _).2 | exact (u8n _).1 | exact (u8n _).2 | (simp only [byt, maxLen, List.length_append, List.length_singleton, List.length_cons, List.length_nil, List.length_replicate, List.length_set]; omega) | (intros; simp only [decide_eq_true_eq, decide_eq_false_iff_not, Bool.not_eq_true', Bool.not_eq_false', beq_iff_eq, bne_iff_ne, beq_eq_false_iff_ne, bne_eq_false_iff_eq, ne_eq, gt_iff_lt, ge_iff_le, Int.not_lt, Int.not_le, Decidable.not_not, Int.toNat_natCast, Int.ofNat_lt, Int.ofNat_le, Nat.not_lt, Nat.not_le] at *; omega)) ?_
      refine W.ret ?_
      have hf : l.take k = l := List.take_of_length_le (by omega)
      rw [hf] at hs
      exact Fin.ret rfl ⟨by rw [hf, szr_ge (by unfold lsz; omega)]; congr 1; unfold lsz; omega, ⟨⟩⟩
end Go.Proofs.Ythlflnplnajjiaa.G
