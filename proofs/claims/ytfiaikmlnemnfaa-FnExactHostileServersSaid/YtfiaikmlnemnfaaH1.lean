/-
  Contracts of the laws' own functions by the symbolic machine: sz.. of every type.
-/
import Derived.Test.YtfiaikmlnemnfaaH0
namespace Go.Proofs.Ytfiaikmlnemnfaa.G
set_option linter.all false
open Go.RowKit L D
set_option maxRecDepth 100000
theorem c_szByteS (l : (List UInt8)) (left : Int) (h0 : 0 ≤ left) (h1 : left ≤ 1048576) : Sound ty Try.prog 181 [.a (.sl .u8 l), .a (.lit (.int .i64 left))] [.a (.lit (.int .i64 (szr left (List.length l))))] := by
  refine Sound.of X Try.call181 Try.func181 rfl rfl (by decide) Try.ntmps181 (by simp) ?_
  intro zb
  refine W.bound 0 rfl fun hl => ?_
  refine W.seq ?_
  refine W.reg X [] [] [0, 1] [] rfl (by (repeat' (first | exact True.intro | apply And.intro)) <;> first | (intros; omega) | exact rfl | exact El_all _ (by decide) | exact (u8w _).1 | exact (u8w _).2 | exact (u8n _).1 | exact (u8n _).2 | (simp only [byt, maxLen, List.length_append, List.length_singleton, List.length_cons, List.length_nil, List.length_replicate, List.length_set]; omega) | (intros; simp only [decide_eq_true_eq, decide_eq_false_iff_not, Bool.not_eq_true', Bool.not_eq_false', beq_iff_eq, bne_iff_ne, beq_eq_false_iff_ne, bne_eq_false_iff_eq, ne_eq, gt_iff_lt, ge_iff_le, Int.not_lt, Int.not_le, Decidable.not_not, Int.toNat_natCast, Int.ofNat_lt, Int.ofNat_le, Nat.not_lt, Nat.not_le] at *; omega)) ?_
  refine W.seq ?_
  refine W.reg X [] [] [1] [] rfl (by (repeat' (first | exact True.intro | apply And.intro)) <;> first | (intros; omega) | exact rfl | exact El_all _ (by decide) | exact (u8w _).1 | exact (u8w _).2 | exact (u8n _).1 | exact (u8n _).2 | (simp only [byt, maxLen, List.length_append, List.length_singleton, List.length_cons, List.length_nil, List.length_replicate, List.length_set]; omega) | (intros; simp only [decide_eq_true_eq, decide_eq_false_iff_not, Bool.not_eq_true', Bool.not_eq_false', beq_iff_eq, bne_iff_ne, beq_eq_false_iff_ne, bne_eq_false_iff_eq, ne_eq, gt_iff_lt, ge_iff_le, Int.not_lt, Int.not_le, Decidable.not_not, Int.toNat_natCast, Int.ofNat_lt, Int.ofNat_le, Nat.not_lt, Nat.not_le] at *; omega)) ?_
  rw [IntWalk.i64_in (left - (l.length : Nat)) (by omega)]
  refine W.seq ?_
  refine W.seq ?_
  refine W.reg X [] [] [1, 10] [] rfl (by (repeat' (first | exact True.intro | apply And.intro)) <;> first | (intros; omega) | exact rfl | exact El_all _ (by decide) | exact (u8w _).1 | exact (u8w _).2 | exact (u8n _).1 | exact (u8n _).2 | (simp only [byt, maxLen, List.length_append, List.length_singleton, List.length_cons, List.length_nil, List.length_replicate, List.length_set]; omega) | (intros; simp only [decide_eq_true_eq, decide_eq_false_iff_not, Bool.not_eq_true', Bool.not_eq_false', beq_iff_eq, bne_iff_ne, beq_eq_false_iff_ne, bne_eq_false_iff_eq, ne_eq, gt_iff_lt, ge_iff_le, Int.not_lt, Int.not_le, Decidable.not_not, Int.toNat_natCast, Int.ofNat_lt, Int.ofNat_le, Nat.not_lt, Nat.not_le] at *; omega)) ?_
  refine W.cond rfl (fun hb0 => ?_) (fun hb0 => ?_)
  · try simp only [decide_eq_true_eq, decide_eq_false_iff_not, Bool.not_eq_true', Bool.not_eq_false', beq_iff_eq, bne_iff_ne, beq_eq_false_iff_ne, bne_eq_false_iff_eq, ne_eq, gt_iff_lt, ge_iff_le, Int.not_lt, Int.not_le, Decidable.not_not, Int.toNat_natCast, Int.ofNat_lt, Int.ofNat_le, Nat.not_lt, Nat.not_le] at hb0
    refine W.seq ?_
    refine W.reg X [] [] [4] [] rfl (by (repeat' (first | exact True.intro | apply And.intro)) <;> first | (intros; omega) | exact rfl | exact El_all _ (by decide) | exact (u8w _).1 | exact (u8w _).2 | exact (u8n _).1 | exact (u8n _).2 | (simp only [byt, maxLen, List.length_append, List.length_singleton, List.length_cons, List.length_nil, List.length_replicate, List.length_set]; omega) | (intros; simp only [decide_eq_true_eq, decide_eq_false_iff_not, Bool.not_eq_true', Bool.not_eq_false', beq_iff_eq, bne_iff_ne, beq_eq_false_iff_ne, bne_eq_false_iff_eq, ne_eq, gt_iff_lt, ge_iff_le, Int.not_lt, Int.not_le, Decidable.not_not, Int.toNat_natCast, Int.ofNat_lt, Int.ofNat_le, Nat.not_lt, Nat.not_le] at *; omega)) ?_
    refine W.ret ?_
    exact Fin.ret rfl ⟨by rw [szr_lt (by omega)], ⟨⟩⟩
  · try simp only [decide_eq_true_eq, decide_eq_false_iff_not, Bool.not_eq_true', Bool.not_eq_false', beq_iff_eq, bne_iff_ne, beq_eq_false_iff_ne, bne_eq_false_iff_eq, ne_eq, gt_iff_lt, ge_iff_le, Int.not_lt, Int.not_le, Decidable.not_not, Int.toNat_natCast, Int.ofNat_lt, Int.ofNat_le, Nat.not_lt, Nat.not_le] at hb0
    refine W.skip ?_
    refine W.seq ?_
    refine W.reg X [] [] [4] [] rfl (by (repeat' (first | exact True.intro | apply And.intro)) <;> first | (intros; omega) | exact rfl | exact El_all _ (by decide) | exact (u8w _).1 | exact (u8w _).2 | exact (u8n _).1 | exact (u8n _).2 | (simp only [byt, maxLen, List.length_append, List.length_singleton, List.length_cons, List.length_nil, List.length_replicate, List.length_set]; omega) | (intros; simp only [decide_eq_true_eq, decide_eq_false_iff_not, Bool.not_eq_true', Bool.not_eq_false', beq_iff_eq, bne_iff_ne, beq_eq_false_iff_ne, bne_eq_false_iff_eq, ne_eq, gt_iff_lt, ge_iff_le, Int.not_lt, Int.not_le, Decidable.not_not, Int.toNat_natCast, Int.ofNat_lt, Int.ofNat_le, Nat.not_lt, Nat.not_le] at *; omega)) ?_
    refine W.ret ?_
    exact Fin.ret rfl ⟨by rw [szr_ge (by omega)], ⟨⟩⟩
theorem c_szByteSS (l : (List (List UInt8))) (left : Int) (h0 : 0 ≤ left) (h1 : left ≤ 1048576) : Sound ty Try.prog 164 [.a (.sl (.sl .u8) l), .a (.lit (.int .i64 left))] [.a (.lit (.int .i64 (szr left ((lsz List.length) l))))] := by
  refine Sound.of X Try.call164 Try.func164 rfl rfl (by decide) Try.ntmps164 (by simp) ?_
  intro zb
  refine W.bound 0 rfl fun hl => ?_
  refine W.seq ?_
  refine W.reg X [] [] [0, 1] [] rfl (by (repeat' (first | exact True.intro | apply And.intro)) <;> first | (intros; omega) | exact rfl | exact El_all _ (by decide) | exact (u8w _).1 | exact (u8w _).2 | exact (u8n _).1 | exact (u8n _).2 | (simp only [byt, maxLen, List.length_append, List.length_singleton, List.length_cons, List.length_nil, List.length_replicate, List.length_set]; omega) | (intros; simp only [decide_eq_true_eq, decide_eq_false_iff_not, Bool.not_eq_true', Bool.not_eq_false', beq_iff_eq, bne_iff_ne, beq_eq_false_iff_ne, bne_eq_false_iff_eq, ne_eq, gt_iff_lt, ge_iff_le, Int.not_lt, Int.not_le, Decidable.not_not, Int.toNat_natCast, Int.ofNat_lt, Int.ofNat_le, Nat.not_lt, Nat.not_le] at *; omega)) ?_
  refine W.seq ?_
  refine W.reg X [] [] [0, 1] [] rfl (by (repeat' (first | exact True.intro | apply And.intro)) <;> first | (intros; omega) | exact rfl | exact El_all _ (by decide) | exact (u8w _).1 | exact (u8w _).2 | exact (u8n _).1 | exact (u8n _).2 | (simp only [byt, maxLen, List.length_append, List.length_singleton, List.length_cons, List.length_nil, List.length_replicate, List.length_set]; omega) | (intros; simp only [decide_eq_true_eq, decide_eq_false_iff_not, Bool.not_eq_true', Bool.not_eq_false', beq_iff_eq, bne_iff_ne, beq_eq_false_iff_ne, bne_eq_false_iff_eq, ne_eq, gt_iff_lt, ge_iff_le, Int.not_lt, Int.not_le, Decidable.not_not, Int.toNat_natCast, Int.ofNat_lt, Int.ofNat_le, Nat.not_lt, Nat.not_le] at *; omega)) ?_
  rw [IntWalk.i64_in (left - (l.length : Nat)) (by omega)]
  refine W.seq ?_
  refine W.seq ?_
  refine W.reg X [] [] [0, 1, 11] [] rfl (by (repeat' (first | exact True.intro | apply And.intro)) <;> first | (intros; omega) | exact rfl | exact El_all _ (by decide) | exact (u8w _).1 | exact (u8w _).2 | exact (u8n _).1 | exact (u8n _).2 | (simp only [byt, maxLen, List.length_append, List.length_singleton, List.length_cons, List.length_nil, List.length_replicate, List.length_set]; omega) | (intros; simp only [decide_eq_true_eq, decide_eq_false_iff_not, Bool.not_eq_true', Bool.not_eq_false', beq_iff_eq, bne_iff_ne, beq_eq_false_iff_ne, bne_eq_false_iff_eq, ne_eq, gt_iff_lt, ge_iff_le, Int.not_lt, Int.not_le, Decidable.not_not, Int.toNat_natCast, Int.ofNat_lt, Int.ofNat_le, Nat.not_lt, Nat.not_le] at *; omega)) ?_
  refine W.cond rfl (fun hb0 => ?_) (fun hb0 => ?_)
  · try simp only [decide_eq_true_eq, decide_eq_false_iff_not, Bool.not_eq_true', Bool.not_eq_false', beq_iff_eq, bne_iff_ne, beq_eq_false_iff_ne, bne_eq_false_iff_eq, ne_eq, gt_iff_lt, ge_iff_le, Int.not_lt, Int.not_le, Decidable.not_not, Int.toNat_natCast, Int.ofNat_lt, Int.ofNat_le, Nat.not_lt, Nat.not_le] at hb0
    refine W.seq ?_
    refine W.reg X [] [] [4] [] rfl (by (repeat' (first | exact True.intro | apply And.intro)) <;> first | (intros; omega) | exact rfl | exact El_all _ (by decide) | exact (u8w _).1 | exact (u8w _).2 | exact (u8n _).1 | exact (u8n _).2 | (simp only [byt, maxLen, List.length_append, List.length_singleton, List.length_cons, List.length_nil, List.length_replicate, List.length_set]; omega) | (intros; simp only [decide_eq_true_eq, decide_eq_false_iff_not, Bool.not_eq_true', Bool.not_eq_false', beq_iff_eq, bne_iff_ne, beq_eq_false_iff_ne, bne_eq_false_iff_eq, ne_eq, gt_iff_lt, ge_iff_le, Int.not_lt, Int.not_le, Decidable.not_not, Int.toNat_natCast, Int.ofNat_lt, Int.ofNat_le, Nat.not_lt, Nat.not_le] at *; omega)) ?_
    refine W.ret ?_
    exact Fin.ret rfl ⟨by rw [szr_lt (by unfold lsz; omega)], ⟨⟩⟩
  · try simp only [decide_eq_true_eq, decide_eq_false_iff_not, Bool.not_eq_true', Bool.not_eq_false', beq_iff_eq, bne_iff_ne, beq_eq_false_iff_ne, bne_eq_false_iff_eq, ne_eq, gt_iff_lt, ge_iff_le, Int.not_lt, Int.not_le, Decidable.not_not, Int.toNat_natCast, Int.ofNat_lt, Int.ofNat_le, Nat.not_lt, Nat.not_le] at hb0
    refine W.skip ?_
    refine W.seq ?_
    refine W.seq ?_
    refine W.reg X [] [] [0, 1, 5] [] rfl (by (repeat' (first | exact True.intro | apply And.intro)) <;> first | (intros; omega) | exact rfl | exact El_all _ (by decide) | exact (u8w _).1 | exact (u8w _).2 | exact (u8n _).1 | exact (u8n _).2 | (simp only [byt, maxLen, List.length_append, List.length_singleton, List.length_cons, List.length_nil, List.length_replicate, List.length_set]; omega) | (intros; simp only [decide_eq_true_eq, decide_eq_false_iff_not, Bool.not_eq_true', Bool.not_eq_false', beq_iff_eq, bne_iff_ne, beq_eq_false_iff_ne, bne_eq_false_iff_eq, ne_eq, gt_iff_lt, ge_iff_le, Int.not_lt, Int.not_le, Decidable.not_not, Int.toNat_natCast, Int.ofNat_lt, Int.ofNat_le, Nat.not_lt, Nat.not_le] at *; omega)) ?_
    refine W.block ?_
    refine W.loopO (fun k => k ≤ l.length ∧ (l.length : Int) + (((l.take k).map List.length).sum : Nat) ≤ left) (fun k : Nat => [(1, .one (.a (.lit (.int .i64 (left - (l.length : Nat) - (((l.take k).map List.length).sum : Nat)))))), (5, .one (.a (.lit (.int .i64 k))))]) (fun k => []) (fun k => l.length - k) 0 (fun k => rfl) ⟨Nat.zero_le _, by simp; omega⟩ (by simp) ?_
    rintro k ⟨hk, hs⟩
    refine W.seq ?_
    refine W.seq ?_
    refine W.reg X [] [] [0, 1, 5, 15] [] rfl (by (repeat' (first | exact True.intro | apply And.intro)) <;> first | (intros; omega) | exact rfl | exact El_all _ (by decide) | exact (u8w _).1 | exact (u8w _).2 | exact (u8n _).1 | exact (u8n _).2 | (simp only [byt, maxLen, List.length_append, List.length_singleton, List.length_cons, List.length_nil, List.length_replicate, List.length_set]; omega) | (intros; simp only [decide_eq_true_eq, decide_eq_false_iff_not, Bool.not_eq_true', Bool.not_eq_false', beq_iff_eq, bne_iff_ne, beq_eq_false_iff_ne, bne_eq_false_iff_eq, ne_eq, gt_iff_lt, ge_iff_le, Int.not_lt, Int.not_le, Decidable.not_not, Int.toNat_natCast, Int.ofNat_lt, Int.ofNat_le, Nat.not_lt, Nat.not_le] at *; omega)) ?_
    refine W.cond rfl (fun hb1 => ?_) (fun hb1 => ?_)
    · try simp only [decide_eq_true_eq, decide_eq_false_iff_not, Bool.not_eq_true', Bool.not_eq_false', beq_iff_eq, bne_iff_ne, beq_eq_false_iff_ne, bne_eq_false_iff_eq, ne_eq, gt_iff_lt, ge_iff_le, Int.not_lt, Int.not_le, Decidable.not_not, Int.toNat_natCast, Int.ofNat_lt, Int.ofNat_le, Nat.not_lt, Nat.not_le] at hb1
      have hsum := sum_step List.length l (dfl (.sl .u8)) k hb1
      have hle := take_sum_le l List.length (k + 1)
      refine W.skip ?_
      refine W.seq ?_
      refine W.block ?_
      refine W.seq ?_
      refine W.reg X [] [(23, ⟨false, [.a (.lit (.int .i64 (szr (left - (l.length : Nat) - (((l.take k).map List.length).sum : Nat)) (List.length (l.getD k (dfl (.sl .u8)))))))]⟩)] [0, 1, 5] [] rfl ⟨c_szByteS (l.getD k (dfl (.sl .u8))) _ (by omega) (by omega), by omega, ⟨⟩⟩ ?_
      refine W.seq ?_
      refine W.reg X [] [] [0, 1, 5, 25] [] rfl (by (repeat' (first | exact True.intro | apply And.intro)) <;> first | (intros; omega) | exact rfl | exact El_all _ (by decide) | exact (u8w _).1 | exact (u8w _).2 | exact (u8n _).1 | exact (u8n _).2 | (simp only [byt, maxLen, List.length_append, List.length_singleton, List.length_cons, List.length_nil, List.length_replicate, List.length_set]; omega) | (intros; simp only [decide_eq_true_eq, decide_eq_false_iff_not, Bool.not_eq_true', Bool.not_eq_false', beq_iff_eq, bne_iff_ne, beq_eq_false_iff_ne, bne_eq_false_iff_eq, ne_eq, gt_iff_lt, ge_iff_le, Int.not_lt, Int.not_le, Decidable.not_not, Int.toNat_natCast, Int.ofNat_lt, Int.ofNat_le, Nat.not_lt, Nat.not_le] at *; omega)) ?_
      refine W.cond rfl (fun hb2 => ?_) (fun hb2 => ?_)
      · try simp only [decide_eq_true_eq, decide_eq_false_iff_not, Bool.not_eq_true', Bool.not_eq_false', beq_iff_eq, bne_iff_ne, beq_eq_false_iff_ne, bne_eq_false_iff_eq, ne_eq, gt_iff_lt, ge_iff_le, Int.not_lt, Int.not_le, Decidable.not_not, Int.toNat_natCast, Int.ofNat_lt, Int.ofNat_le, Nat.not_lt, Nat.not_le] at hb2
        have hn := szr_neg (by omega) hb2
        refine W.seq ?_
        refine W.reg X [] [] [4] [] rfl (by (repeat' (first | exact True.intro | apply And.intro)) <;> first | (intros; omega) | exact rfl | exact El_all _ (by decide) | exact (u8w _).1 | exact (u8w _).2 | exact (u8n _).1 | exact (u8n _).2 | (simp only [byt, maxLen, List.length_append, List.length_singleton, List.length_cons, List.length_nil, List.length_replicate, List.length_set]; omega) | (intros; simp only [decide_eq_true_eq, decide_eq_false_iff_not, Bool.not_eq_true', Bool.not_eq_false', beq_iff_eq, bne_iff_ne, beq_eq_false_iff_ne, bne_eq_false_iff_eq, ne_eq, gt_iff_lt, ge_iff_le, Int.not_lt, Int.not_le, Decidable.not_not, Int.toNat_natCast, Int.ofNat_lt, Int.ofNat_le, Nat.not_lt, Nat.not_le] at *; omega)) ?_
        refine W.ret ?_
        exact Fin.ret rfl ⟨by rw [szr_lt (by unfold lsz; omega)], ⟨⟩⟩
      · try simp only [decide_eq_true_eq, decide_eq_false_iff_not, Bool.not_eq_true', Bool.not_eq_false', beq_iff_eq, bne_iff_ne, beq_eq_false_iff_ne, bne_eq_false_iff_eq, ne_eq, gt_iff_lt, ge_iff_le, Int.not_lt, Int.not_le, Decidable.not_not, Int.toNat_natCast, Int.ofNat_lt, Int.ofNat_le, Nat.not_lt, Nat.not_le] at hb2
        obtain ⟨e2, e3⟩ := szr_pos hb2
        rw [e2]
        refine W.skip ?_
        refine W.reg X [] [] [0, 1, 5] [] rfl (by (repeat' (first | exact True.intro | apply And.intro)) <;> first | (intros; omega) | exact rfl | exact El_all _ (by decide) | exact (u8w _).1 | exact (u8w _).2 | exact (u8n _).1 | exact (u8n _).2 | (simp only [byt, maxLen, List.length_append, List.length_singleton, List.length_cons, List.length_nil, List.length_replicate, List.length_set]; omega) | (intros; simp only [decide_eq_true_eq, decide_eq_false_iff_not, Bool.not_eq_true', Bool.not_eq_false', beq_iff_eq, bne_iff_ne, beq_eq_false_iff_ne, bne_eq_false_iff_eq, ne_eq, gt_iff_lt, ge_iff_le, Int.not_lt, Int.not_le, Decidable.not_not, Int.toNat_natCast, Int.ofNat_lt, Int.ofNat_le, Nat.not_lt, Nat.not_le] at *; omega)) ?_
        refine ⟨k + 1, ⟨by omega, by omega⟩, by omega, ?_⟩
        rw [wadd _ k rfl (by omega), show left - (l.length : Nat) - (((l.take k).map List.length).sum : Nat) - (List.length (l.getD k (dfl (.sl .u8))) : Nat) = left - (l.length : Nat) - (((l.take (k + 1)).map List.length).sum : Nat) by omega]
    · try simp only [decide_eq_true_eq, decide_eq_false_iff_not, Bool.not_eq_true', Bool.not_eq_false', beq_iff_eq, bne_iff_ne, beq_eq_false_iff_ne, bne_eq_false_iff_eq, ne_eq, gt_iff_lt, ge_iff_le, Int.not_lt, Int.not_le, Decidable.not_not, Int.toNat_natCast, Int.ofNat_lt, Int.ofNat_le, Nat.not_lt, Nat.not_le] at hb1
      refine W.exit ?_
      refine W.seq ?_
      refine W.reg X [] [] [4] [] rfl (by (repeat' (first | exact True.intro | apply And.intro)) <;> first | (intros; omega) | exact rfl | exact El_all _ (by decide) | exact (u8w _).1 | exact (u8w _).2 | exact (u8n _).1 | exact (u8n _).2 | (simp only [byt, maxLen, List.length_append, List.length_singleton, List.length_cons, List.length_nil, List.length_replicate, List.length_set]; omega) | (intros; simp only [decide_eq_true_eq, decide_eq_false_iff_not, Bool.not_eq_true', Bool.not_eq_false', beq_iff_eq, bne_iff_ne, beq_eq_false_iff_ne, bne_eq_false_iff_eq, ne_eq, gt_iff_lt, ge_iff_le, Int.not_lt, Int.not_le, Decidable.not_not, Int.toNat_natCast, Int.ofNat_lt, Int.ofNat_le, Nat.not_lt, Nat.not_le] at *; omega)) ?_
      refine W.ret ?_
      have hf : l.take k = l := List.take_of_length_le (by omega)
      rw [hf] at hs
      exact Fin.ret rfl ⟨by rw [hf, szr_ge (by unfold lsz; omega)]; congr 1; unfold lsz; omega, ⟨⟩⟩
theorem c_szDatabase (x : DB) (left : Int) (h0 : 0 ≤ left) (h1 : left ≤ 1048576) : Sound ty Try.prog 165 [.agg (dec_DB x), .a (.lit (.int .i64 left))] [.a (.lit (.int .i64 (szr left (size_DB x))))] := by
  refine Sound.of X Try.call165 Try.func165 rfl rfl (by decide) Try.ntmps165 (by simp) ?_
  intro zb
  refine W.seq ?_
  refine W.reg X [] [] [1, 2] [] rfl (by (repeat' (first | exact True.intro | apply And.intro)) <;> first | (intros; omega) | exact rfl | exact El_all _ (by decide) | exact (u8w _).1 | exact (u8w _).2 | exact (u8n _).1 | exact (u8n _).2 | (simp only [byt, maxLen, List.length_append, List.length_singleton, List.length_cons, List.length_nil, List.length_replicate, List.length_set]; omega) | (intros; simp only [decide_eq_true_eq, decide_eq_false_iff_not, Bool.not_eq_true', Bool.not_eq_false', beq_iff_eq, bne_iff_ne, beq_eq_false_iff_ne, bne_eq_false_iff_eq, ne_eq, gt_iff_lt, ge_iff_le, Int.not_lt, Int.not_le, Decidable.not_not, Int.toNat_natCast, Int.ofNat_lt, Int.ofNat_le, Nat.not_lt, Nat.not_le] at *; omega)) ?_
  refine W.seq ?_
  refine W.reg X [] [(8, ⟨false, [.a (.lit (.int .i64 (szr (left) ((lsz List.length) x.rows))))]⟩)] [1] [] rfl ⟨c_szByteSS x.rows (left) (by omega) (by omega), ⟨⟩⟩ ?_
  refine W.seq ?_
  refine W.seq ?_
  refine W.reg X [] [] [1, 10] [] rfl (by (repeat' (first | exact True.intro | apply And.intro)) <;> first | (intros; omega) | exact rfl | exact El_all _ (by decide) | exact (u8w _).1 | exact (u8w _).2 | exact (u8n _).1 | exact (u8n _).2 | (simp only [byt, maxLen, List.length_append, List.length_singleton, List.length_cons, List.length_nil, List.length_replicate, List.length_set]; omega) | (intros; simp only [decide_eq_true_eq, decide_eq_false_iff_not, Bool.not_eq_true', Bool.not_eq_false', beq_iff_eq, bne_iff_ne, beq_eq_false_iff_ne, bne_eq_false_iff_eq, ne_eq, gt_iff_lt, ge_iff_le, Int.not_lt, Int.not_le, Decidable.not_not, Int.toNat_natCast, Int.ofNat_lt, Int.ofNat_le, Nat.not_lt, Nat.not_le] at *; omega)) ?_
  refine W.cond rfl (fun hb0 => ?_) (fun hb0 => ?_)
  · try simp only [decide_eq_true_eq, decide_eq_false_iff_not, Bool.not_eq_true', Bool.not_eq_false', beq_iff_eq, bne_iff_ne, beq_eq_false_iff_ne, bne_eq_false_iff_eq, ne_eq, gt_iff_lt, ge_iff_le, Int.not_lt, Int.not_le, Decidable.not_not, Int.toNat_natCast, Int.ofNat_lt, Int.ofNat_le, Nat.not_lt, Nat.not_le] at hb0
    refine W.seq ?_
    refine W.reg X [] [] [4] [] rfl (by (repeat' (first | exact True.intro | apply And.intro)) <;> first | (intros; omega) | exact rfl | exact El_all _ (by decide) | exact (u8w _).1 | exact (u8w _).2 | exact (u8n _).1 | exact (u8n _).2 | (simp only [byt, maxLen, List.length_append, List.length_singleton, List.length_cons, List.length_nil, List.length_replicate, List.length_set]; omega) | (intros; simp only [decide_eq_true_eq, decide_eq_false_iff_not, Bool.not_eq_true', Bool.not_eq_false', beq_iff_eq, bne_iff_ne, beq_eq_false_iff_ne, bne_eq_false_iff_eq, ne_eq, gt_iff_lt, ge_iff_le, Int.not_lt, Int.not_le, Decidable.not_not, Int.toNat_natCast, Int.ofNat_lt, Int.ofNat_le, Nat.not_lt, Nat.not_le] at *; omega)) ?_
    refine W.ret ?_
    exact Fin.ret rfl ⟨by rw [szr_lt (by have := szr_neg (by omega) hb0; unfold size_DB; omega)], ⟨⟩⟩
  · try simp only [decide_eq_true_eq, decide_eq_false_iff_not, Bool.not_eq_true', Bool.not_eq_false', beq_iff_eq, bne_iff_ne, beq_eq_false_iff_ne, bne_eq_false_iff_eq, ne_eq, gt_iff_lt, ge_iff_le, Int.not_lt, Int.not_le, Decidable.not_not, Int.toNat_natCast, Int.ofNat_lt, Int.ofNat_le, Nat.not_lt, Nat.not_le] at hb0
    obtain ⟨e0, e0'⟩ := szr_pos hb0
    rw [e0]
    refine W.skip ?_
    refine W.seq ?_
    refine W.reg X [] [] [4] [] rfl (by (repeat' (first | exact True.intro | apply And.intro)) <;> first | (intros; omega) | exact rfl | exact El_all _ (by decide) | exact (u8w _).1 | exact (u8w _).2 | exact (u8n _).1 | exact (u8n _).2 | (simp only [byt, maxLen, List.length_append, List.length_singleton, List.length_cons, List.length_nil, List.length_replicate, List.length_set]; omega) | (intros; simp only [decide_eq_true_eq, decide_eq_false_iff_not, Bool.not_eq_true', Bool.not_eq_false', beq_iff_eq, bne_iff_ne, beq_eq_false_iff_ne, bne_eq_false_iff_eq, ne_eq, gt_iff_lt, ge_iff_le, Int.not_lt, Int.not_le, Decidable.not_not, Int.toNat_natCast, Int.ofNat_lt, Int.ofNat_le, Nat.not_lt, Nat.not_le] at *; omega)) ?_
    refine W.ret ?_
    exact Fin.ret rfl ⟨by rw [szr_ge (by unfold size_DB; omega)]; first | done | (congr 1; done) | (congr 1; unfold size_DB; omega), ⟨⟩⟩
theorem c_szArchivedRound (x : ARound) (left : Int) (h0 : 0 ≤ left) (h1 : left ≤ 1048576) : Sound ty Try.prog 132 [.agg (dec_ARound x), .a (.lit (.int .i64 left))] [.a (.lit (.int .i64 (szr left (size_ARound x))))] := by
  refine Sound.of X Try.call132 Try.func132 rfl rfl (by decide) Try.ntmps132 (by simp) ?_
  intro zb
  refine W.seq ?_
  refine W.reg X [] [] [1, 2] [] rfl (by (repeat' (first | exact True.intro | apply And.intro)) <;> first | (intros; omega) | exact rfl | exact El_all _ (by decide) | exact (u8w _).1 | exact (u8w _).2 | exact (u8n _).1 | exact (u8n _).2 | (simp only [byt, maxLen, List.length_append, List.length_singleton, List.length_cons, List.length_nil, List.length_replicate, List.length_set]; omega) | (intros; simp only [decide_eq_true_eq, decide_eq_false_iff_not, Bool.not_eq_true', Bool.not_eq_false', beq_iff_eq, bne_iff_ne, beq_eq_false_iff_ne, bne_eq_false_iff_eq, ne_eq, gt_iff_lt, ge_iff_le, Int.not_lt, Int.not_le, Decidable.not_not, Int.toNat_natCast, Int.ofNat_lt, Int.ofNat_le, Nat.not_lt, Nat.not_le] at *; omega)) ?_
  refine W.seq ?_
  refine W.reg X [] [(8, ⟨false, [.a (.lit (.int .i64 (szr (left) (size_DB x.db))))]⟩)] [1] [] rfl ⟨c_szDatabase x.db (left) (by omega) (by omega), ⟨⟩⟩ ?_
  refine W.seq ?_
  refine W.seq ?_
  refine W.reg X [] [] [1, 10] [] rfl (by (repeat' (first | exact True.intro | apply And.intro)) <;> first | (intros; omega) | exact rfl | exact El_all _ (by decide) | exact (u8w _).1 | exact (u8w _).2 | exact (u8n _).1 | exact (u8n _).2 | (simp only [byt, maxLen, List.length_append, List.length_singleton, List.length_cons, List.length_nil, List.length_replicate, List.length_set]; omega) | (intros; simp only [decide_eq_true_eq, decide_eq_false_iff_not, Bool.not_eq_true', Bool.not_eq_false', beq_iff_eq, bne_iff_ne, beq_eq_false_iff_ne, bne_eq_false_iff_eq, ne_eq, gt_iff_lt, ge_iff_le, Int.not_lt, Int.not_le, Decidable.not_not, Int.toNat_natCast, Int.ofNat_lt, Int.ofNat_le, Nat.not_lt, Nat.not_le] at *; omega)) ?_
  refine W.cond rfl (fun hb0 => ?_) (fun hb0 => ?_)
  · try simp only [decide_eq_true_eq, decide_eq_false_iff_not, Bool.not_eq_true', Bool.not_eq_false', beq_iff_eq, bne_iff_ne, beq_eq_false_iff_ne, bne_eq_false_iff_eq, ne_eq, gt_iff_lt, ge_iff_le, Int.not_lt, Int.not_le, Decidable.not_not, Int.toNat_natCast, Int.ofNat_lt, Int.ofNat_le, Nat.not_lt, Nat.not_le] at hb0
    refine W.seq ?_
    refine W.reg X [] [] [4] [] rfl (by (repeat' (first | exact True.intro | apply And.intro)) <;> first | (intros; omega) | exact rfl | exact El_all _ (by decide) | exact (u8w _).1 | exact (u8w _).2 | exact (u8n _).1 | exact (u8n _).2 | (simp only [byt, maxLen, List.length_append, List.length_singleton, List.length_cons, List.length_nil, List.length_replicate, List.length_set]; omega) | (intros; simp only [decide_eq_true_eq, decide_eq_false_iff_not, Bool.not_eq_true', Bool.not_eq_false', beq_iff_eq, bne_iff_ne, beq_eq_false_iff_ne, bne_eq_false_iff_eq, ne_eq, gt_iff_lt, ge_iff_le, Int.not_lt, Int.not_le, Decidable.not_not, Int.toNat_natCast, Int.ofNat_lt, Int.ofNat_le, Nat.not_lt, Nat.not_le] at *; omega)) ?_
    refine W.ret ?_
    exact Fin.ret rfl ⟨by rw [szr_lt (by have := szr_neg (by omega) hb0; unfold size_ARound; omega)], ⟨⟩⟩
  · try simp only [decide_eq_true_eq, decide_eq_false_iff_not, Bool.not_eq_true', Bool.not_eq_false', beq_iff_eq, bne_iff_ne, beq_eq_false_iff_ne, bne_eq_false_iff_eq, ne_eq, gt_iff_lt, ge_iff_le, Int.not_lt, Int.not_le, Decidable.not_not, Int.toNat_natCast, Int.ofNat_lt, Int.ofNat_le, Nat.not_lt, Nat.not_le] at hb0
    obtain ⟨e0, e0'⟩ := szr_pos hb0
    rw [e0]
    refine W.skip ?_
    refine W.seq ?_
    refine W.reg X [] [] [4] [] rfl (by (repeat' (first | exact True.intro | apply And.intro)) <;> first | (intros; omega) | exact rfl | exact El_all _ (by decide) | exact (u8w _).1 | exact (u8w _).2 | exact (u8n _).1 | exact (u8n _).2 | (simp only [byt, maxLen, List.length_append, List.length_singleton, List.length_cons, List.length_nil, List.length_replicate, List.length_set]; omega) | (intros; simp only [decide_eq_true_eq, decide_eq_false_iff_not, Bool.not_eq_true', Bool.not_eq_false', beq_iff_eq, bne_iff_ne, beq_eq_false_iff_ne, bne_eq_false_iff_eq, ne_eq, gt_iff_lt, ge_iff_le, Int.not_lt, Int.not_le, Decidable.not_not, Int.toNat_natCast, Int.ofNat_lt, Int.ofNat_le, Nat.not_lt, Nat.not_le] at *; omega)) ?_
    refine W.ret ?_
    exact Fin.ret rfl ⟨by rw [szr_ge (by unfold size_ARound; omega)]; first | done | (congr 1; done) | (congr 1; unfold size_ARound; omega), ⟨⟩⟩
theorem c_szArchivedRoundS (l : (List ARound)) (left : Int) (h0 : 0 ≤ left) (h1 : left ≤ 1048576) : Sound ty Try.prog 95 [.a (.sl .ARound l), .a (.lit (.int .i64 left))] [.a (.lit (.int .i64 (szr left ((lsz size_ARound) l))))] := by
  refine Sound.of X Try.call95 Try.func95 rfl rfl (by decide) Try.ntmps95 (by simp) ?_
  intro zb
  refine W.bound 0 rfl fun hl => ?_
  refine W.seq ?_
  refine W.reg X [] [] [0, 1] [] rfl (by (repeat' (first | exact True.intro | apply And.intro)) <;> first | (intros; omega) | exact rfl | exact El_all _ (by decide) | exact (u8w _).1 | exact (u8w _).2 | exact (u8n _).1 | exact (u8n _).2 | (simp only [byt, maxLen, List.length_append, List.length_singleton, List.length_cons, List.length_nil, List.length_replicate, List.length_set]; omega) | (intros; simp only [decide_eq_true_eq, decide_eq_false_iff_not, Bool.not_eq_true', Bool.not_eq_false', beq_iff_eq, bne_iff_ne, beq_eq_false_iff_ne, bne_eq_false_iff_eq, ne_eq, gt_iff_lt, ge_iff_le, Int.not_lt, Int.not_le, Decidable.not_not, Int.toNat_natCast, Int.ofNat_lt, Int.ofNat_le, Nat.not_lt, Nat.not_le] at *; omega)) ?_
  refine W.seq ?_
  refine W.reg X [] [] [0, 1] [] rfl (by (repeat' (first | exact True.intro | apply And.intro)) <;> first | (intros; omega) | exact rfl | exact El_all _ (by decide) | exact (u8w _).1 | exact (u8w _).2 | exact (u8n _).1 | exact (u8n _).2 | (simp only [byt, maxLen, List.length_append, List.length_singleton, List.length_cons, List.length_nil, List.length_replicate, List.length_set]; omega) | (intros; simp only [decide_eq_true_eq, decide_eq_false_iff_not, Bool.not_eq_true', Bool.not_eq_false', beq_iff_eq, bne_iff_ne, beq_eq_false_iff_ne, bne_eq_false_iff_eq, ne_eq, gt_iff_lt, ge_iff_le, Int.not_lt, Int.not_le, Decidable.not_not, Int.toNat_natCast, Int.ofNat_lt, Int.ofNat_le, Nat.not_lt, Nat.not_le] at *; omega)) ?_
  rw [IntWalk.i64_in (left - (l.length : Nat)) (by omega)]
  refine W.seq ?_
  refine W.seq ?_
  refine W.reg X [] [] [0, 1, 11] [] rfl (by (repeat' (first | exact True.intro | apply And.intro)) <;> first | (intros; omega) | exact rfl | exact El_all _ (by decide) | exact (u8w _).1 | exact (u8w _).2 | exact (u8n _).1 | exact (u8n _).2 | (simp only [byt, maxLen, List.length_append, List.length_singleton, List.length_cons, List.length_nil, List.length_replicate, List.length_set]; omega) | (intros; simp only [decide_eq_true_eq, decide_eq_false_iff_not, Bool.not_eq_true', Bool.not_eq_false', beq_iff_eq, bne_iff_ne, beq_eq_false_iff_ne, bne_eq_false_iff_eq, ne_eq, gt_iff_lt, ge_iff_le, Int.not_lt, Int.not_le, Decidable.not_not, Int.toNat_natCast, Int.ofNat_lt, Int.ofNat_le, Nat.not_lt, Nat.not_le] at *; omega)) ?_
  refine W.cond rfl (fun hb0 => ?_) (fun hb0 => ?_)
  · try simp only [decide_eq_true_eq, decide_eq_false_iff_not, Bool.not_eq_true', Bool.not_eq_false', beq_iff_eq, bne_iff_ne, beq_eq_false_iff_ne, bne_eq_false_iff_eq, ne_eq, gt_iff_lt, ge_iff_le, Int.not_lt, Int.not_le, Decidable.not_not, Int.toNat_natCast, Int.ofNat_lt, Int.ofNat_le, Nat.not_lt, Nat.not_le] at hb0
    refine W.seq ?_
    refine W.reg X [] [] [4] [] rfl (by (repeat' (first | exact True.intro | apply And.intro)) <;> first | (intros; omega) | exact rfl | exact El_all _ (by decide) | exact (u8w _).1 | exact (u8w _).2 | exact (u8n _).1 | exact (u8n _).2 | (simp only [byt, maxLen, List.length_append, List.length_singleton, List.length_cons, List.length_nil, List.length_replicate, List.length_set]; omega) | (intros; simp only [decide_eq_true_eq, decide_eq_false_iff_not, Bool.not_eq_true', Bool.not_eq_false', beq_iff_eq, bne_iff_ne, beq_eq_false_iff_ne, bne_eq_false_iff_eq, ne_eq, gt_iff_lt, ge_iff_le, Int.not_lt, Int.not_le, Decidable.not_not, Int.toNat_natCast, Int.ofNat_lt, Int.ofNat_le, Nat.not_lt, Nat.not_le] at *; omega)) ?_
    refine W.ret ?_
    exact Fin.ret rfl ⟨by rw [szr_lt (by unfold lsz; omega)], ⟨⟩⟩
  · try simp only [decide_eq_true_eq, decide_eq_false_iff_not, Bool.not_eq_true', Bool.not_eq_false', beq_iff_eq, bne_iff_ne, beq_eq_false_iff_ne, bne_eq_false_iff_eq, ne_eq, gt_iff_lt, ge_iff_le, Int.not_lt, Int.not_le, Decidable.not_not, Int.toNat_natCast, Int.ofNat_lt, Int.ofNat_le, Nat.not_lt, Nat.not_le] at hb0
    refine W.skip ?_
    refine W.seq ?_
    refine W.seq ?_
    refine W.reg X [] [] [0, 1, 5] [] rfl (by (repeat' (first | exact True.intro | apply And.intro)) <;> first | (intros; omega) | exact rfl | exact El_all _ (by decide) | exact (u8w _).1 | exact (u8w _).2 | exact (u8n _).1 | exact (u8n _).2 | (simp only [byt, maxLen, List.length_append, List.length_singleton, List.length_cons, List.length_nil, List.length_replicate, List.length_set]; omega) | (intros; simp only [decide_eq_true_eq, decide_eq_false_iff_not, Bool.not_eq_true', Bool.not_eq_false', beq_iff_eq, bne_iff_ne, beq_eq_false_iff_ne, bne_eq_false_iff_eq, ne_eq, gt_iff_lt, ge_iff_le, Int.not_lt, Int.not_le, Decidable.not_not, Int.toNat_natCast, Int.ofNat_lt, Int.ofNat_le, Nat.not_lt, Nat.not_le] at *; omega)) ?_
    refine W.block ?_
    refine W.loopO (fun k => k ≤ l.length ∧ (l.length : Int) + (((l.take k).map size_ARound).sum : Nat) ≤ left) (fun k : Nat => [(1, .one (.a (.lit (.int .i64 (left - (l.length : Nat) - (((l.take k).map size_ARound).sum : Nat)))))), (5, .one (.a (.lit (.int .i64 k))))]) (fun k => []) (fun k => l.length - k) 0 (fun k => rfl) ⟨Nat.zero_le _, by simp; omega⟩ (by simp) ?_
    rintro k ⟨hk, hs⟩
    refine W.seq ?_
    refine W.seq ?_
    refine W.reg X [] [] [0, 1, 5, 15] [] rfl (by (repeat' (first | exact True.intro | apply And.intro)) <;> first | (intros; omega) | exact rfl | exact El_all _ (by decide) | exact (u8w _).1 | exact (u8w _).2 | exact (u8n _).1 | exact (u8n _).2 | (simp only [byt, maxLen, List.length_append, List.length_singleton, List.length_cons, List.length_nil, List.length_replicate, List.length_set]; omega) | (intros; simp only [decide_eq_true_eq, decide_eq_false_iff_not, Bool.not_eq_true', Bool.not_eq_false', beq_iff_eq, bne_iff_ne, beq_eq_false_iff_ne, bne_eq_false_iff_eq, ne_eq, gt_iff_lt, ge_iff_le, Int.not_lt, Int.not_le, Decidable.not_not, Int.toNat_natCast, Int.ofNat_lt, Int.ofNat_le, Nat.not_lt, Nat.not_le] at *; omega)) ?_
    refine W.cond rfl (fun hb1 => ?_) (fun hb1 => ?_)
    · try simp only [decide_eq_true_eq, decide_eq_false_iff_not, Bool.not_eq_true', Bool.not_eq_false', beq_iff_eq, bne_iff_ne, beq_eq_false_iff_ne, bne_eq_false_iff_eq, ne_eq, gt_iff_lt, ge_iff_le, Int.not_lt, Int.not_le, Decidable.not_not, Int.toNat_natCast, Int.ofNat_lt, Int.ofNat_le, Nat.not_lt, Nat.not_le] at hb1
      have hsum := sum_step size_ARound l (dfl .ARound) k hb1
      have hle := take_sum_le l size_ARound (k + 1)
      refine W.skip ?_
      refine W.seq ?_
      refine W.block ?_
      refine W.seq ?_
      refine W.reg X [] [(23, ⟨false, [.a (.lit (.int .i64 (szr (left - (l.length : Nat) - (((l.take k).map size_ARound).sum : Nat)) (size_ARound (l.getD k (dfl .ARound))))))]⟩)] [0, 1, 5] [] rfl ⟨c_szArchivedRound (l.getD k (dfl .ARound)) _ (by omega) (by omega), by omega, ⟨⟩⟩ ?_
      refine W.seq ?_
      refine W.reg X [] [] [0, 1, 5, 25] [] rfl (by (repeat' (first | exact True.intro | apply And.intro)) <;> first | (intros; omega) | exact rfl | exact El_all _ (by decide) | exact (u8w _).1 | exact (u8w _).2 | exact (u8n _).1 | exact (u8n _).2 | (simp only [byt, maxLen, List.length_append, List.length_singleton, List.length_cons, List.length_nil, List.length_replicate, List.length_set]; omega) | (intros; simp only [decide_eq_true_eq, decide_eq_false_iff_not, Bool.not_eq_true', Bool.not_eq_false', beq_iff_eq, bne_iff_ne, beq_eq_false_iff_ne, bne_eq_false_iff_eq, ne_eq, gt_iff_lt, ge_iff_le, Int.not_lt, Int.not_le, Decidable.not_not, Int.toNat_natCast, Int.ofNat_lt, Int.ofNat_le, Nat.not_lt, Nat.not_le] at *; omega)) ?_
      refine W.cond rfl (fun hb2 => ?_) (fun hb2 => ?_)
      · try simp only [decide_eq_true_eq, decide_eq_false_iff_not, Bool.not_eq_true', Bool.not_eq_false', beq_iff_eq, bne_iff_ne, beq_eq_false_iff_ne, bne_eq_false_iff_eq, ne_eq, gt_iff_lt, ge_iff_le, Int.not_lt, Int.not_le, Decidable.not_not, Int.toNat_natCast, Int.ofNat_lt, Int.ofNat_le, Nat.not_lt, Nat.not_le] at hb2
        have hn := szr_neg (by omega) hb2
        refine W.seq ?_
        refine W.reg X [] [] [4] [] rfl (by (repeat' (first | exact True.intro | apply And.intro)) <;> first | (intros; omega) | exact rfl | exact El_all _ (by decide) | exact (u8w _).1 | exact (u8w _).2 | exact (u8n _).1 | exact (u8n _).2 | (simp only [byt, maxLen, List.length_append, List.length_singleton, List.length_cons, List.length_nil, List.length_replicate, List.length_set]; omega) | (intros; simp only [decide_eq_true_eq, decide_eq_false_iff_not, Bool.not_eq_true', Bool.not_eq_false', beq_iff_eq, bne_iff_ne, beq_eq_false_iff_ne, bne_eq_false_iff_eq, ne_eq, gt_iff_lt, ge_iff_le, Int.not_lt, Int.not_le, Decidable.not_not, Int.toNat_natCast, Int.ofNat_lt, Int.ofNat_le, Nat.not_lt, Nat.not_le] at *; omega)) ?_
        refine W.ret ?_
        exact Fin.ret rfl ⟨by rw [szr_lt (by unfold lsz; omega)], ⟨⟩⟩
      · try simp only [decide_eq_true_eq, decide_eq_false_iff_not, Bool.not_eq_true', Bool.not_eq_false', beq_iff_eq, bne_iff_ne, beq_eq_false_iff_ne, bne_eq_false_iff_eq, ne_eq, gt_iff_lt, ge_iff_le, Int.not_lt, Int.not_le, Decidable.not_not, Int.toNat_natCast, Int.ofNat_lt, Int.ofNat_le, Nat.not_lt, Nat.not_le] at hb2
        obtain ⟨e2, e3⟩ := szr_pos hb2
        rw [e2]
        refine W.skip ?_
        refine W.reg X [] [] [0, 1, 5] [] rfl (by (repeat' (first | exact True.intro | apply And.intro)) <;> first | (intros; omega) | exact rfl | exact El_all _ (by decide) | exact (u8w _).1 | exact (u8w _).2 | exact (u8n _).1 | exact (u8n _).2 | (simp only [byt, maxLen, List.length_append, List.length_singleton, List.length_cons, List.length_nil, List.length_replicate, List.length_set]; omega) | (intros; simp only [decide_eq_true_eq, decide_eq_false_iff_not, Bool.not_eq_true', Bool.not_eq_false', beq_iff_eq, bne_iff_ne, beq_eq_false_iff_ne, bne_eq_false_iff_eq, ne_eq, gt_iff_lt, ge_iff_le, Int.not_lt, Int.not_le, Decidable.not_not, Int.toNat_natCast, Int.ofNat_lt, Int.ofNat_le, Nat.not_lt, Nat.not_le] at *; omega)) ?_
        refine ⟨k + 1, ⟨by omega, by omega⟩, by omega, ?_⟩
        rw [wadd _ k rfl (by omega), show left - (l.length : Nat) - (((l.take k).map size_ARound).sum : Nat) - (size_ARound (l.getD k (dfl .ARound)) : Nat) = left - (l.length : Nat) - (((l.take (k + 1)).map size_ARound).sum : Nat) by omega]
    · try simp only [decide_eq_true_eq, decide_eq_false_iff_not, Bool.not_eq_true', Bool.not_eq_false', beq_iff_eq, bne_iff_ne, beq_eq_false_iff_ne, bne_eq_false_iff_eq, ne_eq, gt_iff_lt, ge_iff_le, Int.not_lt, Int.not_le, Decidable.not_not, Int.toNat_natCast, Int.ofNat_lt, Int.ofNat_le, Nat.not_lt, Nat.not_le] at hb1
      refine W.exit ?_
      refine W.seq ?_
      refine W.reg X [] [] [4] [] rfl (by (repeat' (first | exact True.intro | apply And.intro)) <;> first | (intros; omega) | exact rfl | exact El_all _ (by decide) | exact (u8w _).1 | exact (u8w _).2 | exact (u8n _).1 | exact (u8n _).2 | (simp only [byt, maxLen, List.length_append, List.length_singleton, List.length_cons, List.length_nil, List.length_replicate, List.length_set]; omega) | (intros; simp only [decide_eq_true_eq, decide_eq_false_iff_not, Bool.not_eq_true', Bool.not_eq_false', beq_iff_eq, bne_iff_ne, beq_eq_false_iff_ne, bne_eq_false_iff_eq, ne_eq, gt_iff_lt, ge_iff_le, Int.not_lt, Int.not_le, Decidable.not_not, Int.toNat_natCast, Int.ofNat_lt, Int.ofNat_le, Nat.not_lt, Nat.not_le] at *; omega)) ?_
      refine W.ret ?_
      have hf : l.take k = l := List.take_of_length_le (by omega)
      rw [hf] at hs
      exact Fin.ret rfl ⟨by rw [hf, szr_ge (by unfold lsz; omega)]; congr 1; unfold lsz; omega, ⟨⟩⟩
theorem c_szArchive (x : Arc) (left : Int) (h0 : 0 ≤ left) (h1 : left ≤ 1048576) : Sound ty Try.prog 51 [.agg (dec_Arc x), .a (.lit (.int .i64 left))] [.a (.lit (.int .i64 (szr left (size_Arc x))))] := by
  refine Sound.of X Try.call51 Try.func51 rfl rfl (by decide) Try.ntmps51 (by simp) ?_
  intro zb
  refine W.seq ?_
  refine W.reg X [] [] [1, 2] [] rfl (by (repeat' (first | exact True.intro | apply And.intro)) <;> first | (intros; omega) | exact rfl | exact El_all _ (by decide) | exact (u8w _).1 | exact (u8w _).2 | exact (u8n _).1 | exact (u8n _).2 | (simp only [byt, maxLen, List.length_append, List.length_singleton, List.length_cons, List.length_nil, List.length_replicate, List.length_set]; omega) | (intros; simp only [decide_eq_true_eq, decide_eq_false_iff_not, Bool.not_eq_true', Bool.not_eq_false', beq_iff_eq, bne_iff_ne, beq_eq_false_iff_ne, bne_eq_false_iff_eq, ne_eq, gt_iff_lt, ge_iff_le, Int.not_lt, Int.not_le, Decidable.not_not, Int.toNat_natCast, Int.ofNat_lt, Int.ofNat_le, Nat.not_lt, Nat.not_le] at *; omega)) ?_
  refine W.seq ?_
  refine W.reg X [] [(8, ⟨false, [.a (.lit (.int .i64 (szr (left) ((lsz size_ARound) x.rounds))))]⟩)] [1] [] rfl ⟨c_szArchivedRoundS x.rounds (left) (by omega) (by omega), ⟨⟩⟩ ?_
  refine W.seq ?_
  refine W.seq ?_
  refine W.reg X [] [] [1, 10] [] rfl (by (repeat' (first | exact True.intro | apply And.intro)) <;> first | (intros; omega) | exact rfl | exact El_all _ (by decide) | exact (u8w _).1 | exact (u8w _).2 | exact (u8n _).1 | exact (u8n _).2 | (simp only [byt, maxLen, List.length_append, List.length_singleton, List.length_cons, List.length_nil, List.length_replicate, List.length_set]; omega) | (intros; simp only [decide_eq_true_eq, decide_eq_false_iff_not, Bool.not_eq_true', Bool.not_eq_false', beq_iff_eq, bne_iff_ne, beq_eq_false_iff_ne, bne_eq_false_iff_eq, ne_eq, gt_iff_lt, ge_iff_le, Int.not_lt, Int.not_le, Decidable.not_not, Int.toNat_natCast, Int.ofNat_lt, Int.ofNat_le, Nat.not_lt, Nat.not_le] at *; omega)) ?_
  refine W.cond rfl (fun hb0 => ?_) (fun hb0 => ?_)
  · try simp only [decide_eq_true_eq, decide_eq_false_iff_not, Bool.not_eq_true', Bool.not_eq_false', beq_iff_eq, bne_iff_ne, beq_eq_false_iff_ne, bne_eq_false_iff_eq, ne_eq, gt_iff_lt, ge_iff_le, Int.not_lt, Int.not_le, Decidable.not_not, Int.toNat_natCast, Int.ofNat_lt, Int.ofNat_le, Nat.not_lt, Nat.not_le] at hb0
    refine W.seq ?_
    refine W.reg X [] [] [4] [] rfl (by (repeat' (first | exact True.intro | apply And.intro)) <;> first | (intros; omega) | exact rfl | exact El_all _ (by decide) | exact (u8w _).1 | exact (u8w _).2 | exact (u8n _).1 | exact (u8n _).2 | (simp only [byt, maxLen, List.length_append, List.length_singleton, List.length_cons, List.length_nil, List.length_replicate, List.length_set]; omega) | (intros; simp only [decide_eq_true_eq, decide_eq_false_iff_not, Bool.not_eq_true', Bool.not_eq_false', beq_iff_eq, bne_iff_ne, beq_eq_false_iff_ne, bne_eq_false_iff_eq, ne_eq, gt_iff_lt, ge_iff_le, Int.not_lt, Int.not_le, Decidable.not_not, Int.toNat_natCast, Int.ofNat_lt, Int.ofNat_le, Nat.not_lt, Nat.not_le] at *; omega)) ?_
    refine W.ret ?_
    exact Fin.ret rfl ⟨by rw [szr_lt (by have := szr_neg (by omega) hb0; unfold size_Arc; omega)], ⟨⟩⟩
  · try simp only [decide_eq_true_eq, decide_eq_false_iff_not, Bool.not_eq_true', Bool.not_eq_false', beq_iff_eq, bne_iff_ne, beq_eq_false_iff_ne, bne_eq_false_iff_eq, ne_eq, gt_iff_lt, ge_iff_le, Int.not_lt, Int.not_le, Decidable.not_not, Int.toNat_natCast, Int.ofNat_lt, Int.ofNat_le, Nat.not_lt, Nat.not_le] at hb0
    obtain ⟨e0, e0'⟩ := szr_pos hb0
    rw [e0]
    refine W.skip ?_
    refine W.seq ?_
    refine W.reg X [] [] [4] [] rfl (by (repeat' (first | exact True.intro | apply And.intro)) <;> first | (intros; omega) | exact rfl | exact El_all _ (by decide) | exact (u8w _).1 | exact (u8w _).2 | exact (u8n _).1 | exact (u8n _).2 | (simp only [byt, maxLen, List.length_append, List.length_singleton, List.length_cons, List.length_nil, List.length_replicate, List.length_set]; omega) | (intros; simp only [decide_eq_true_eq, decide_eq_false_iff_not, Bool.not_eq_true', Bool.not_eq_false', beq_iff_eq, bne_iff_ne, beq_eq_false_iff_ne, bne_eq_false_iff_eq, ne_eq, gt_iff_lt, ge_iff_le, Int.not_lt, Int.not_le, Decidable.not_not, Int.toNat_natCast, Int.ofNat_lt, Int.ofNat_le, Nat.not_lt, Nat.not_le] at *; omega)) ?_
    refine W.ret ?_
    exact Fin.ret rfl ⟨by rw [szr_ge (by unfold size_Arc; omega)]; first | done | (congr 1; done) | (congr 1; unfold size_Arc; omega), ⟨⟩⟩
theorem c_szClient (x : Cli) (left : Int) (h0 : 0 ≤ left) (h1 : left ≤ 1048576) : Sound ty Try.prog 131 [.agg (dec_Cli x), .a (.lit (.int .i64 left))] [.a (.lit (.int .i64 (szr left (size_Cli x))))] := by
  refine Sound.of X Try.call131 Try.func131 rfl rfl (by decide) Try.ntmps131 (by simp) ?_
  intro zb
  refine W.seq ?_
  refine W.reg X [] [] [1, 2] [] rfl (by (repeat' (first | exact True.intro | apply And.intro)) <;> first | (intros; omega) | exact rfl | exact El_all _ (by decide) | exact (u8w _).1 | exact (u8w _).2 | exact (u8n _).1 | exact (u8n _).2 | (simp only [byt, maxLen, List.length_append, List.length_singleton, List.length_cons, List.length_nil, List.length_replicate, List.length_set]; omega) | (intros; simp only [decide_eq_true_eq, decide_eq_false_iff_not, Bool.not_eq_true', Bool.not_eq_false', beq_iff_eq, bne_iff_ne, beq_eq_false_iff_ne, bne_eq_false_iff_eq, ne_eq, gt_iff_lt, ge_iff_le, Int.not_lt, Int.not_le, Decidable.not_not, Int.toNat_natCast, Int.ofNat_lt, Int.ofNat_le, Nat.not_lt, Nat.not_le] at *; omega)) ?_
  refine W.seq ?_
  refine W.reg X [] [(8, ⟨false, [.a (.lit (.int .i64 (szr (left) ((lsz List.length) x.submitted))))]⟩)] [1, 2] [] rfl ⟨c_szByteSS x.submitted (left) (by omega) (by omega), ⟨⟩⟩ ?_
  refine W.seq ?_
  refine W.seq ?_
  refine W.reg X [] [] [1, 2, 10] [] rfl (by (repeat' (first | exact True.intro | apply And.intro)) <;> first | (intros; omega) | exact rfl | exact El_all _ (by decide) | exact (u8w _).1 | exact (u8w _).2 | exact (u8n _).1 | exact (u8n _).2 | (simp only [byt, maxLen, List.length_append, List.length_singleton, List.length_cons, List.length_nil, List.length_replicate, List.length_set]; omega) | (intros; simp only [decide_eq_true_eq, decide_eq_false_iff_not, Bool.not_eq_true', Bool.not_eq_false', beq_iff_eq, bne_iff_ne, beq_eq_false_iff_ne, bne_eq_false_iff_eq, ne_eq, gt_iff_lt, ge_iff_le, Int.not_lt, Int.not_le, Decidable.not_not, Int.toNat_natCast, Int.ofNat_lt, Int.ofNat_le, Nat.not_lt, Nat.not_le] at *; omega)) ?_
  refine W.cond rfl (fun hb0 => ?_) (fun hb0 => ?_)
  · try simp only [decide_eq_true_eq, decide_eq_false_iff_not, Bool.not_eq_true', Bool.not_eq_false', beq_iff_eq, bne_iff_ne, beq_eq_false_iff_ne, bne_eq_false_iff_eq, ne_eq, gt_iff_lt, ge_iff_le, Int.not_lt, Int.not_le, Decidable.not_not, Int.toNat_natCast, Int.ofNat_lt, Int.ofNat_le, Nat.not_lt, Nat.not_le] at hb0
    refine W.seq ?_
    refine W.reg X [] [] [4] [] rfl (by (repeat' (first | exact True.intro | apply And.intro)) <;> first | (intros; omega) | exact rfl | exact El_all _ (by decide) | exact (u8w _).1 | exact (u8w _).2 | exact (u8n _).1 | exact (u8n _).2 | (simp only [byt, maxLen, List.length_append, List.length_singleton, List.length_cons, List.length_nil, List.length_replicate, List.length_set]; omega) | (intros; simp only [decide_eq_true_eq, decide_eq_false_iff_not, Bool.not_eq_true', Bool.not_eq_false', beq_iff_eq, bne_iff_ne, beq_eq_false_iff_ne, bne_eq_false_iff_eq, ne_eq, gt_iff_lt, ge_iff_le, Int.not_lt, Int.not_le, Decidable.not_not, Int.toNat_natCast, Int.ofNat_lt, Int.ofNat_le, Nat.not_lt, Nat.not_le] at *; omega)) ?_
    refine W.ret ?_
    exact Fin.ret rfl ⟨by rw [szr_lt (by have := szr_neg (by omega) hb0; unfold size_Cli; omega)], ⟨⟩⟩
  · try simp only [decide_eq_true_eq, decide_eq_false_iff_not, Bool.not_eq_true', Bool.not_eq_false', beq_iff_eq, bne_iff_ne, beq_eq_false_iff_ne, bne_eq_false_iff_eq, ne_eq, gt_iff_lt, ge_iff_le, Int.not_lt, Int.not_le, Decidable.not_not, Int.toNat_natCast, Int.ofNat_lt, Int.ofNat_le, Nat.not_lt, Nat.not_le] at hb0
    obtain ⟨e0, e0'⟩ := szr_pos hb0
    rw [e0]
    refine W.skip ?_
    refine W.seq ?_
    refine W.reg X [] [(14, ⟨false, [.a (.lit (.int .i64 (szr (left - (((lsz List.length) x.submitted) : Nat)) ((lsz List.length) x.inbox))))]⟩)] [1] [] rfl ⟨c_szByteSS x.inbox (left - (((lsz List.length) x.submitted) : Nat)) (by omega) (by omega), ⟨⟩⟩ ?_
    refine W.seq ?_
    refine W.seq ?_
    refine W.reg X [] [] [1, 16] [] rfl (by (repeat' (first | exact True.intro | apply And.intro)) <;> first | (intros; omega) | exact rfl | exact El_all _ (by decide) | exact (u8w _).1 | exact (u8w _).2 | exact (u8n _).1 | exact (u8n _).2 | (simp only [byt, maxLen, List.length_append, List.length_singleton, List.length_cons, List.length_nil, List.length_replicate, List.length_set]; omega) | (intros; simp only [decide_eq_true_eq, decide_eq_false_iff_not, Bool.not_eq_true', Bool.not_eq_false', beq_iff_eq, bne_iff_ne, beq_eq_false_iff_ne, bne_eq_false_iff_eq, ne_eq, gt_iff_lt, ge_iff_le, Int.not_lt, Int.not_le, Decidable.not_not, Int.toNat_natCast, Int.ofNat_lt, Int.ofNat_le, Nat.not_lt, Nat.not_le] at *; omega)) ?_
    refine W.cond rfl (fun hb1 => ?_) (fun hb1 => ?_)
    · try simp only [decide_eq_true_eq, decide_eq_false_iff_not, Bool.not_eq_true', Bool.not_eq_false', beq_iff_eq, bne_iff_ne, beq_eq_false_iff_ne, bne_eq_false_iff_eq, ne_eq, gt_iff_lt, ge_iff_le, Int.not_lt, Int.not_le, Decidable.not_not, Int.toNat_natCast, Int.ofNat_lt, Int.ofNat_le, Nat.not_lt, Nat.not_le] at hb1
      refine W.seq ?_
      refine W.reg X [] [] [4] [] rfl (by (repeat' (first | exact True.intro | apply And.intro)) <;> first | (intros; omega) | exact rfl | exact El_all _ (by decide) | exact (u8w _).1 | exact (u8w _).2 | exact (u8n _).1 | exact (u8n _).2 | (simp only [byt, maxLen, List.length_append, List.length_singleton, List.length_cons, List.length_nil, List.length_replicate, List.length_set]; omega) | (intros; simp only [decide_eq_true_eq, decide_eq_false_iff_not, Bool.not_eq_true', Bool.not_eq_false', beq_iff_eq, bne_iff_ne, beq_eq_false_iff_ne, bne_eq_false_iff_eq, ne_eq, gt_iff_lt, ge_iff_le, Int.not_lt, Int.not_le, Decidable.not_not, Int.toNat_natCast, Int.ofNat_lt, Int.ofNat_le, Nat.not_lt, Nat.not_le] at *; omega)) ?_
      refine W.ret ?_
      exact Fin.ret rfl ⟨by rw [szr_lt (by have := szr_neg (by omega) hb1; unfold size_Cli; omega)], ⟨⟩⟩
    · try simp only [decide_eq_true_eq, decide_eq_false_iff_not, Bool.not_eq_true', Bool.not_eq_false', beq_iff_eq, bne_iff_ne, beq_eq_false_iff_ne, bne_eq_false_iff_eq, ne_eq, gt_iff_lt, ge_iff_le, Int.not_lt, Int.not_le, Decidable.not_not, Int.toNat_natCast, Int.ofNat_lt, Int.ofNat_le, Nat.not_lt, Nat.not_le] at hb1
      obtain ⟨e1, e1'⟩ := szr_pos hb1
      rw [e1]
      refine W.skip ?_
      refine W.seq ?_
      refine W.reg X [] [] [4] [] rfl (by (repeat' (first | exact True.intro | apply And.intro)) <;> first | (intros; omega) | exact rfl | exact El_all _ (by decide) | exact (u8w _).1 | exact (u8w _).2 | exact (u8n _).1 | exact (u8n _).2 | (simp only [byt, maxLen, List.length_append, List.length_singleton, List.length_cons, List.length_nil, List.length_replicate, List.length_set]; omega) | (intros; simp only [decide_eq_true_eq, decide_eq_false_iff_not, Bool.not_eq_true', Bool.not_eq_false', beq_iff_eq, bne_iff_ne, beq_eq_false_iff_ne, bne_eq_false_iff_eq, ne_eq, gt_iff_lt, ge_iff_le, Int.not_lt, Int.not_le, Decidable.not_not, Int.toNat_natCast, Int.ofNat_lt, Int.ofNat_le, Nat.not_lt, Nat.not_le] at *; omega)) ?_
      refine W.ret ?_
      exact Fin.ret rfl ⟨by rw [szr_ge (by unfold size_Cli; omega)]; first | done | (congr 1; done) | (congr 1; unfold size_Cli; omega), ⟨⟩⟩
theorem c_szDevice (x : Dev) (left : Int) (h0 : 0 ≤ left) (h1 : left ≤ 1048576) : Sound ty Try.prog 94 [.agg (dec_Dev x), .a (.lit (.int .i64 left))] [.a (.lit (.int .i64 (szr left (size_Dev x))))] := by
  refine Sound.of X Try.call94 Try.func94 rfl rfl (by decide) Try.ntmps94 (by simp) ?_
  intro zb
  refine W.seq ?_
  refine W.reg X [] [] [1, 2] [] rfl (by (repeat' (first | exact True.intro | apply And.intro)) <;> first | (intros; omega) | exact rfl | exact El_all _ (by decide) | exact (u8w _).1 | exact (u8w _).2 | exact (u8n _).1 | exact (u8n _).2 | (simp only [byt, maxLen, List.length_append, List.length_singleton, List.length_cons, List.length_nil, List.length_replicate, List.length_set]; omega) | (intros; simp only [decide_eq_true_eq, decide_eq_false_iff_not, Bool.not_eq_true', Bool.not_eq_false', beq_iff_eq, bne_iff_ne, beq_eq_false_iff_ne, bne_eq_false_iff_eq, ne_eq, gt_iff_lt, ge_iff_le, Int.not_lt, Int.not_le, Decidable.not_not, Int.toNat_natCast, Int.ofNat_lt, Int.ofNat_le, Nat.not_lt, Nat.not_le] at *; omega)) ?_
  refine W.seq ?_
  refine W.reg X [] [(8, ⟨false, [.a (.lit (.int .i64 (szr (left) (size_Cli x.live))))]⟩)] [1, 2] [] rfl ⟨c_szClient x.live (left) (by omega) (by omega), ⟨⟩⟩ ?_
  refine W.seq ?_
  refine W.seq ?_
  refine W.reg X [] [] [1, 2, 10] [] rfl (by (repeat' (first | exact True.intro | apply And.intro)) <;> first | (intros; omega) | exact rfl | exact El_all _ (by decide) | exact (u8w _).1 | exact (u8w _).2 | exact (u8n _).1 | exact (u8n _).2 | (simp only [byt, maxLen, List.length_append, List.length_singleton, List.length_cons, List.length_nil, List.length_replicate, List.length_set]; omega) | (intros; simp only [decide_eq_true_eq, decide_eq_false_iff_not, Bool.not_eq_true', Bool.not_eq_false', beq_iff_eq, bne_iff_ne, beq_eq_false_iff_ne, bne_eq_false_iff_eq, ne_eq, gt_iff_lt, ge_iff_le, Int.not_lt, Int.not_le, Decidable.not_not, Int.toNat_natCast, Int.ofNat_lt, Int.ofNat_le, Nat.not_lt, Nat.not_le] at *; omega)) ?_
  refine W.cond rfl (fun hb0 => ?_) (fun hb0 => ?_)
  · try simp only [decide_eq_true_eq, decide_eq_false_iff_not, Bool.not_eq_true', Bool.not_eq_false', beq_iff_eq, bne_iff_ne, beq_eq_false_iff_ne, bne_eq_false_iff_eq, ne_eq, gt_iff_lt, ge_iff_le, Int.not_lt, Int.not_le, Decidable.not_not, Int.toNat_natCast, Int.ofNat_lt, Int.ofNat_le, Nat.not_lt, Nat.not_le] at hb0
    refine W.seq ?_
    refine W.reg X [] [] [4] [] rfl (by (repeat' (first | exact True.intro | apply And.intro)) <;> first | (intros; omega) | exact rfl | exact El_all _ (by decide) | exact (u8w _).1 | exact (u8w _).2 | exact (u8n _).1 | exact (u8n _).2 | (simp only [byt, maxLen, List.length_append, List.length_singleton, List.length_cons, List.length_nil, List.length_replicate, List.length_set]; omega) | (intros; simp only [decide_eq_true_eq, decide_eq_false_iff_not, Bool.not_eq_true', Bool.not_eq_false', beq_iff_eq, bne_iff_ne, beq_eq_false_iff_ne, bne_eq_false_iff_eq, ne_eq, gt_iff_lt, ge_iff_le, Int.not_lt, Int.not_le, Decidable.not_not, Int.toNat_natCast, Int.ofNat_lt, Int.ofNat_le, Nat.not_lt, Nat.not_le] at *; omega)) ?_
    refine W.ret ?_
    exact Fin.ret rfl ⟨by rw [szr_lt (by have := szr_neg (by omega) hb0; unfold size_Dev; omega)], ⟨⟩⟩
  · try simp only [decide_eq_true_eq, decide_eq_false_iff_not, Bool.not_eq_true', Bool.not_eq_false', beq_iff_eq, bne_iff_ne, beq_eq_false_iff_ne, bne_eq_false_iff_eq, ne_eq, gt_iff_lt, ge_iff_le, Int.not_lt, Int.not_le, Decidable.not_not, Int.toNat_natCast, Int.ofNat_lt, Int.ofNat_le, Nat.not_lt, Nat.not_le] at hb0
    obtain ⟨e0, e0'⟩ := szr_pos hb0
    rw [e0]
    refine W.skip ?_
    refine W.seq ?_
    refine W.reg X [] [(14, ⟨false, [.a (.lit (.int .i64 (szr (left - ((size_Cli x.live) : Nat)) (size_Cli x.saved))))]⟩)] [1] [] rfl ⟨c_szClient x.saved (left - ((size_Cli x.live) : Nat)) (by omega) (by omega), ⟨⟩⟩ ?_
    refine W.seq ?_
    refine W.seq ?_
    refine W.reg X [] [] [1, 16] [] rfl (by (repeat' (first | exact True.intro | apply And.intro)) <;> first | (intros; omega) | exact rfl | exact El_all _ (by decide) | exact (u8w _).1 | exact (u8w _).2 | exact (u8n _).1 | exact (u8n _).2 | (simp only [byt, maxLen, List.length_append, List.length_singleton, List.length_cons, List.length_nil, List.length_replicate, List.length_set]; omega) | (intros; simp only [decide_eq_true_eq, decide_eq_false_iff_not, Bool.not_eq_true', Bool.not_eq_false', beq_iff_eq, bne_iff_ne, beq_eq_false_iff_ne, bne_eq_false_iff_eq, ne_eq, gt_iff_lt, ge_iff_le, Int.not_lt, Int.not_le, Decidable.not_not, Int.toNat_natCast, Int.ofNat_lt, Int.ofNat_le, Nat.not_lt, Nat.not_le] at *; omega)) ?_
    refine W.cond rfl (fun hb1 => ?_) (fun hb1 => ?_)
    · try simp only [decide_eq_true_eq, decide_eq_false_iff_not, Bool.not_eq_true', Bool.not_eq_false', beq_iff_eq, bne_iff_ne, beq_eq_false_iff_ne, bne_eq_false_iff_eq, ne_eq, gt_iff_lt, ge_iff_le, Int.not_lt, Int.not_le, Decidable.not_not, Int.toNat_natCast, Int.ofNat_lt, Int.ofNat_le, Nat.not_lt, Nat.not_le] at hb1
      refine W.seq ?_
      refine W.reg X [] [] [4] [] rfl (by (repeat' (first | exact True.intro | apply And.intro)) <;> first | (intros; omega) | exact rfl | exact El_all _ (by decide) | exact (u8w _).1 | exact (u8w _).2 | exact (u8n _).1 | exact (u8n _).2 | (simp only [byt, maxLen, List.length_append, List.length_singleton, List.length_cons, List.length_nil, List.length_replicate, List.length_set]; omega) | (intros; simp only [decide_eq_true_eq, decide_eq_false_iff_not, Bool.not_eq_true', Bool.not_eq_false', beq_iff_eq, bne_iff_ne, beq_eq_false_iff_ne, bne_eq_false_iff_eq, ne_eq, gt_iff_lt, ge_iff_le, Int.not_lt, Int.not_le, Decidable.not_not, Int.toNat_natCast, Int.ofNat_lt, Int.ofNat_le, Nat.not_lt, Nat.not_le] at *; omega)) ?_
      refine W.ret ?_
      exact Fin.ret rfl ⟨by rw [szr_lt (by have := szr_neg (by omega) hb1; unfold size_Dev; omega)], ⟨⟩⟩
    · try simp only [decide_eq_true_eq, decide_eq_false_iff_not, Bool.not_eq_true', Bool.not_eq_false', beq_iff_eq, bne_iff_ne, beq_eq_false_iff_ne, bne_eq_false_iff_eq, ne_eq, gt_iff_lt, ge_iff_le, Int.not_lt, Int.not_le, Decidable.not_not, Int.toNat_natCast, Int.ofNat_lt, Int.ofNat_le, Nat.not_lt, Nat.not_le] at hb1
      obtain ⟨e1, e1'⟩ := szr_pos hb1
      rw [e1]
      refine W.skip ?_
      refine W.seq ?_
      refine W.reg X [] [] [4] [] rfl (by (repeat' (first | exact True.intro | apply And.intro)) <;> first | (intros; omega) | exact rfl | exact El_all _ (by decide) | exact (u8w _).1 | exact (u8w _).2 | exact (u8n _).1 | exact (u8n _).2 | (simp only [byt, maxLen, List.length_append, List.length_singleton, List.length_cons, List.length_nil, List.length_replicate, List.length_set]; omega) | (intros; simp only [decide_eq_true_eq, decide_eq_false_iff_not, Bool.not_eq_true', Bool.not_eq_false', beq_iff_eq, bne_iff_ne, beq_eq_false_iff_ne, bne_eq_false_iff_eq, ne_eq, gt_iff_lt, ge_iff_le, Int.not_lt, Int.not_le, Decidable.not_not, Int.toNat_natCast, Int.ofNat_lt, Int.ofNat_le, Nat.not_lt, Nat.not_le] at *; omega)) ?_
      refine W.ret ?_
      exact Fin.ret rfl ⟨by rw [szr_ge (by unfold size_Dev; omega)]; first | done | (congr 1; done) | (congr 1; unfold size_Dev; omega), ⟨⟩⟩
theorem c_szDeviceS (l : (List Dev)) (left : Int) (h0 : 0 ≤ left) (h1 : left ≤ 1048576) : Sound ty Try.prog 50 [.a (.sl .Dev l), .a (.lit (.int .i64 left))] [.a (.lit (.int .i64 (szr left ((lsz size_Dev) l))))] := by
  refine Sound.of X Try.call50 Try.func50 rfl rfl (by decide) Try.ntmps50 (by simp) ?_
  intro zb
  refine W.bound 0 rfl fun hl => ?_
  refine W.seq ?_
  refine W.reg X [] [] [0, 1] [] rfl (by (repeat' (first | exact True.intro | apply And.intro)) <;> first | (intros; omega) | exact rfl | exact El_all _ (by decide) | exact (u8w _).1 | exact (u8w _).2 | exact (u8n _).1 | exact (u8n _).2 | (simp only [byt, maxLen, List.length_append, List.length_singleton, List.length_cons, List.length_nil, List.length_replicate, List.length_set]; omega) | (intros; simp only [decide_eq_true_eq, decide_eq_false_iff_not, Bool.not_eq_true', Bool.not_eq_false', beq_iff_eq, bne_iff_ne, beq_eq_false_iff_ne, bne_eq_false_iff_eq, ne_eq, gt_iff_lt, ge_iff_le, Int.not_lt, Int.not_le, Decidable.not_not, Int.toNat_natCast, Int.ofNat_lt, Int.ofNat_le, Nat.not_lt, Nat.not_le] at *; omega)) ?_
  refine W.seq ?_
  refine W.reg X [] [] [0, 1] [] rfl (by (repeat' (first | exact True.intro | apply And.intro)) <;> first | (intros; omega) | exact rfl | exact El_all _ (by decide) | exact (u8w _).1 | exact (u8w _).2 | exact (u8n _).1 | exact (u8n _).2 | (simp only [byt, maxLen, List.length_append, List.length_singleton, List.length_cons, List.length_nil, List.length_replicate, List.length_set]; omega) | (intros; simp only [decide_eq_true_eq, decide_eq_false_iff_not, Bool.not_eq_true', Bool.not_eq_false', beq_iff_eq, bne_iff_ne, beq_eq_false_iff_ne, bne_eq_false_iff_eq, ne_eq, gt_iff_lt, ge_iff_le, Int.not_lt, Int.not_le, Decidable.not_not, Int.toNat_natCast, Int.ofNat_lt, Int.ofNat_le, Nat.not_lt, Nat.not_le] at *; omega)) ?_
  rw [IntWalk.i64_in (left - (l.length : Nat)) (by omega)]
  refine W.seq ?_
  refine W.seq ?_
  refine W.reg X [] [] [0, 1, 11] [] rfl (by (repeat' (first | exact True.intro | apply And.intro)) <;> first | (intros; omega) | exact rfl | exact El_all _ (by decide) | exact (u8w _).1 | exact (u8w _).2 | exact (u8n _).1 | exact (u8n _).2 | (simp only [byt, maxLen, List.length_append, List.length_singleton, List.length_cons, List.length_nil, List.length_replicate, List.length_set]; omega) | (intros; simp only [decide_eq_true_eq, decide_eq_false_iff_not, Bool.not_eq_true', Bool.not_eq_false', beq_iff_eq, bne_iff_ne, beq_eq_false_iff_ne, bne_eq_false_iff_eq, ne_eq, gt_iff_lt, ge_iff_le, Int.not_lt, Int.not_le, Decidable.not_not, Int.toNat_natCast, Int.ofNat_lt, Int.ofNat_le, Nat.not_lt, Nat.not_le] at *; omega)) ?_
  refine W.cond rfl (fun hb0 => ?_) (fun hb0 => ?_)
  · try simp only [decide_eq_true_eq, decide_eq_false_iff_not, Bool.not_eq_true', Bool.not_eq_false', beq_iff_eq, bne_iff_ne, beq_eq_false_iff_ne, bne_eq_false_iff_eq, ne_eq, gt_iff_lt, ge_iff_le, Int.not_lt, Int.not_le, Decidable.not_not, Int.toNat_natCast, Int.ofNat_lt, Int.ofNat_le, Nat.not_lt, Nat.not_le] at hb0
    refine W.seq ?_
    refine W.reg X [] [] [4] [] rfl (by (repeat' (first | exact True.intro | apply And.intro)) <;> first | (intros; omega) | exact rfl | exact El_all _ (by decide) | exact (u8w _).1 | exact (u8w _).2 | exact (u8n _).1 | exact (u8n _).2 | (simp only [byt, maxLen, List.length_append, List.length_singleton, List.length_cons, List.length_nil, List.length_replicate, List.length_set]; omega) | (intros; simp only [decide_eq_true_eq, decide_eq_false_iff_not, Bool.not_eq_true', Bool.not_eq_false', beq_iff_eq, bne_iff_ne, beq_eq_false_iff_ne, bne_eq_false_iff_eq, ne_eq, gt_iff_lt, ge_iff_le, Int.not_lt, Int.not_le, Decidable.not_not, Int.toNat_natCast, Int.ofNat_lt, Int.ofNat_le, Nat.not_lt, Nat.not_le] at *; omega)) ?_
    refine W.ret ?_
    exact Fin.ret rfl ⟨by rw [szr_lt (by unfold lsz; omega)], ⟨⟩⟩
  · try simp only [decide_eq_true_eq, decide_eq_false_iff_not, Bool.not_eq_true', Bool.not_eq_false', beq_iff_eq, bne_iff_ne, beq_eq_false_iff_ne, bne_eq_false_iff_eq, ne_eq, gt_iff_lt, ge_iff_le, Int.not_lt, Int.not_le, Decidable.not_not, Int.toNat_natCast, Int.ofNat_lt, Int.ofNat_le, Nat.not_lt, Nat.not_le] at hb0
    refine W.skip ?_
    refine W.seq ?_
    refine W.seq ?_
    refine W.reg X [] [] [0, 1, 5] [] rfl (by (repeat' (first | exact True.intro | apply And.intro)) <;> first | (intros; omega) | exact rfl | exact El_all _ (by decide) | exact (u8w _).1 | exact (u8w _).2 | exact (u8n _).1 | exact (u8n _).2 | (simp only [byt, maxLen, List.length_append, List.length_singleton, List.length_cons, List.length_nil, List.length_replicate, List.length_set]; omega) | (intros; simp only [decide_eq_true_eq, decide_eq_false_iff_not, Bool.not_eq_true', Bool.not_eq_false', beq_iff_eq, bne_iff_ne, beq_eq_false_iff_ne, bne_eq_false_iff_eq, ne_eq, gt_iff_lt, ge_iff_le, Int.not_lt, Int.not_le, Decidable.not_not, Int.toNat_natCast, Int.ofNat_lt, Int.ofNat_le, Nat.not_lt, Nat.not_le] at *; omega)) ?_
    refine W.block ?_
    refine W.loopO (fun k => k ≤ l.length ∧ (l.length : Int) + (((l.take k).map size_Dev).sum : Nat) ≤ left) (fun k : Nat => [(1, .one (.a (.lit (.int .i64 (left - (l.length : Nat) - (((l.take k).map size_Dev).sum : Nat)))))), (5, .one (.a (.lit (.int .i64 k))))]) (fun k => []) (fun k => l.length - k) 0 (fun k => rfl) ⟨Nat.zero_le _, by simp; omega⟩ (by simp) ?_
    rintro k ⟨hk, hs⟩
    refine W.seq ?_
    refine W.seq ?_
    refine W.reg X [] [] [0, 1, 5, 15] [] rfl (by (repeat' (first | exact True.intro | apply And.intro)) <;> first | (intros; omega) | exact rfl | exact El_all _ (by decide) | exact (u8w _).1 | exact (u8w _).2 | exact (u8n _).1 | exact (u8n _).2 | (simp only [byt, maxLen, List.length_append, List.length_singleton, List.length_cons, List.length_nil, List.length_replicate, List.length_set]; omega) | (intros; simp only [decide_eq_true_eq, decide_eq_false_iff_not, Bool.not_eq_true', Bool.not_eq_false', beq_iff_eq, bne_iff_ne, beq_eq_false_iff_ne, bne_eq_false_iff_eq, ne_eq, gt_iff_lt, ge_iff_le, Int.not_lt, Int.not_le, Decidable.not_not, Int.toNat_natCast, Int.ofNat_lt, Int.ofNat_le, Nat.not_lt, Nat.not_le] at *; omega)) ?_
    refine W.cond rfl (fun hb1 => ?_) (fun hb1 => ?_)
    · try simp only [decide_eq_true_eq, decide_eq_false_iff_not, Bool.not_eq_true', Bool.not_eq_false', beq_iff_eq, bne_iff_ne, beq_eq_false_iff_ne, bne_eq_false_iff_eq, ne_eq, gt_iff_lt, ge_iff_le, Int.not_lt, Int.not_le, Decidable.not_not, Int.toNat_natCast, Int.ofNat_lt, Int.ofNat_le, Nat.not_lt, Nat.not_le] at hb1
      have hsum := sum_step size_Dev l (dfl .Dev) k hb1
      have hle := take_sum_le l size_Dev (k + 1)
      refine W.skip ?_
      refine W.seq ?_
      refine W.block ?_
      refine W.seq ?_
      refine W.reg X [] [(23, ⟨false, [.a (.lit (.int .i64 (szr (left - (l.length : Nat) - (((l.take k).map size_Dev).sum : Nat)) (size_Dev (l.getD k (dfl .Dev))))))]⟩)] [0, 1, 5] [] rfl ⟨c_szDevice (l.getD k (dfl .Dev)) _ (by omega) (by omega), by omega, ⟨⟩⟩ ?_
      refine W.seq ?_
      refine W.reg X [] [] [0, 1, 5, 25] [] rfl (by (repeat' (first | exact True.intro | apply And.intro)) <;> first | (intros; omega) | exact rfl | exact El_all _ (by decide) | exact (u8w _).1 | exact (u8w _).2 | exact (u8n _).1 | exact (u8n _).2 | (simp only [byt, maxLen, List.length_append, List.length_singleton, List.length_cons, List.length_nil, List.length_replicate, List.length_set]; omega) | (intros; simp only [decide_eq_true_eq, decide_eq_false_iff_not, Bool.not_eq_true', Bool.not_eq_false', beq_iff_eq, bne_iff_ne, beq_eq_false_iff_ne, bne_eq_false_iff_eq, ne_eq, gt_iff_lt, ge_iff_le, Int.not_lt, Int.not_le, Decidable.not_not, Int.toNat_natCast, Int.ofNat_lt, Int.ofNat_le, Nat.not_lt, Nat.not_le] at *; omega)) ?_
      refine W.cond rfl (fun hb2 => ?_) (fun hb2 => ?_)
      · try simp only [decide_eq_true_eq, decide_eq_false_iff_not, Bool.not_eq_true', Bool.not_eq_false', beq_iff_eq, bne_iff_ne, beq_eq_false_iff_ne, bne_eq_false_iff_eq, ne_eq, gt_iff_lt, ge_iff_le, Int.not_lt, Int.not_le, Decidable.not_not, Int.toNat_natCast, Int.ofNat_lt, Int.ofNat_le, Nat.not_lt, Nat.not_le] at hb2
        have hn := szr_neg (by omega) hb2
        refine W.seq ?_
        refine W.reg X [] [] [4] [] rfl (by (repeat' (first | exact True.intro | apply And.intro)) <;> first | (intros; omega) | exact rfl | exact El_all _ (by decide) | exact (u8w _).1 | exact (u8w _).2 | exact (u8n _).1 | exact (u8n _).2 | (simp only [byt, maxLen, List.length_append, List.length_singleton, List.length_cons, List.length_nil, List.length_replicate, List.length_set]; omega) | (intros; simp only [decide_eq_true_eq, decide_eq_false_iff_not, Bool.not_eq_true', Bool.not_eq_false', beq_iff_eq, bne_iff_ne, beq_eq_false_iff_ne, bne_eq_false_iff_eq, ne_eq, gt_iff_lt, ge_iff_le, Int.not_lt, Int.not_le, Decidable.not_not, Int.toNat_natCast, Int.ofNat_lt, Int.ofNat_le, Nat.not_lt, Nat.not_le] at *; omega)) ?_
        refine W.ret ?_
        exact Fin.ret rfl ⟨by rw [szr_lt (by unfold lsz; omega)], ⟨⟩⟩
      · try simp only [decide_eq_true_eq, decide_eq_false_iff_not, Bool.not_eq_true', Bool.not_eq_false', beq_iff_eq, bne_iff_ne, beq_eq_false_iff_ne, bne_eq_false_iff_eq, ne_eq, gt_iff_lt, ge_iff_le, Int.not_lt, Int.not_le, Decidable.not_not, Int.toNat_natCast, Int.ofNat_lt, Int.ofNat_le, Nat.not_lt, Nat.not_le] at hb2
        obtain ⟨e2, e3⟩ := szr_pos hb2
        rw [e2]
        refine W.skip ?_
        refine W.reg X [] [] [0, 1, 5] [] rfl (by (repeat' (first | exact True.intro | apply And.intro)) <;> first | (intros; omega) | exact rfl | exact El_all _ (by decide) | exact (u8w _).1 | exact (u8w _).2 | exact (u8n _).1 | exact (u8n _).2 | (simp only [byt, maxLen, List.length_append, List.length_singleton, List.length_cons, List.length_nil, List.length_replicate, List.length_set]; omega) | (intros; simp only [decide_eq_true_eq, decide_eq_false_iff_not, Bool.not_eq_true', Bool.not_eq_false', beq_iff_eq, bne_iff_ne, beq_eq_false_iff_ne, bne_eq_false_iff_eq, ne_eq, gt_iff_lt, ge_iff_le, Int.not_lt, Int.not_le, Decidable.not_not, Int.toNat_natCast, Int.ofNat_lt, Int.ofNat_le, Nat.not_lt, Nat.not_le] at *; omega)) ?_
        refine ⟨k + 1, ⟨by omega, by omega⟩, by omega, ?_⟩
        rw [wadd _ k rfl (by omega), show left - (l.length : Nat) - (((l.take k).map size_Dev).sum : Nat) - (size_Dev (l.getD k (dfl .Dev)) : Nat) = left - (l.length : Nat) - (((l.take (k + 1)).map size_Dev).sum : Nat) by omega]
    · try simp only [decide_eq_true_eq, decide_eq_false_iff_not, Bool.not_eq_true', Bool.not_eq_false', beq_iff_eq, bne_iff_ne, beq_eq_false_iff_ne, bne_eq_false_iff_eq, ne_eq, gt_iff_lt, ge_iff_le, Int.not_lt, Int.not_le, Decidable.not_not, Int.toNat_natCast, Int.ofNat_lt, Int.ofNat_le, Nat.not_lt, Nat.not_le] at hb1
      refine W.exit ?_
      refine W.seq ?_
      refine W.reg X [] [] [4] [] rfl (by (repeat' (first | exact True.intro | apply And.intro)) <;> first | (intros; omega) | exact rfl | exact El_all _ (by decide) | exact (u8w _).1 | exact (u8w _).2 | exact (u8n _).1 | exact (u8n _).2 | (simp only [byt, maxLen, List.length_append, List.length_singleton, List.length_cons, List.length_nil, List.length_replicate, List.length_set]; omega) | (intros; simp only [decide_eq_true_eq, decide_eq_false_iff_not, Bool.not_eq_true', Bool.not_eq_false', beq_iff_eq, bne_iff_ne, beq_eq_false_iff_ne, bne_eq_false_iff_eq, ne_eq, gt_iff_lt, ge_iff_le, Int.not_lt, Int.not_le, Decidable.not_not, Int.toNat_natCast, Int.ofNat_lt, Int.ofNat_le, Nat.not_lt, Nat.not_le] at *; omega)) ?_
      refine W.ret ?_
      have hf : l.take k = l := List.take_of_length_le (by omega)
      rw [hf] at hs
      exact Fin.ret rfl ⟨by rw [hf, szr_ge (by unfold lsz; omega)]; congr 1; unfold lsz; omega, ⟨⟩⟩
theorem c_szIntS (l : (List Int)) (left : Int) (h0 : 0 ≤ left) (h1 : left ≤ 1048576) : Sound ty Try.prog 52 [.a (.sl .int l), .a (.lit (.int .i64 left))] [.a (.lit (.int .i64 (szr left (List.length l))))] := by
  refine Sound.of X Try.call52 Try.func52 rfl rfl (by decide) Try.ntmps52 (by simp) ?_
  intro zb
  refine W.bound 0 rfl fun hl => ?_
  refine W.seq ?_
  refine W.reg X [] [] [0, 1] [] rfl (by (repeat' (first | exact True.intro | apply And.intro)) <;> first | (intros; omega) | exact rfl | exact El_all _ (by decide) | exact (u8w _).1 | exact (u8w _).2 | exact (u8n _).1 | exact (u8n _).2 | (simp only [byt, maxLen, List.length_append, List.length_singleton, List.length_cons, List.length_nil, List.length_replicate, List.length_set]; omega) | (intros; simp only [decide_eq_true_eq, decide_eq_false_iff_not, Bool.not_eq_true', Bool.not_eq_false', beq_iff_eq, bne_iff_ne, beq_eq_false_iff_ne, bne_eq_false_iff_eq, ne_eq, gt_iff_lt, ge_iff_le, Int.not_lt, Int.not_le, Decidable.not_not, Int.toNat_natCast, Int.ofNat_lt, Int.ofNat_le, Nat.not_lt, Nat.not_le] at *; omega)) ?_
  refine W.seq ?_
  refine W.reg X [] [] [1] [] rfl (by (repeat' (first | exact True.intro | apply And.intro)) <;> first | (intros; omega) | exact rfl | exact El_all _ (by decide) | exact (u8w _).1 | exact (u8w _).2 | exact (u8n _).1 | exact (u8n _).2 | (simp only [byt, maxLen, List.length_append, List.length_singleton, List.length_cons, List.length_nil, List.length_replicate, List.length_set]; omega) | (intros; simp only [decide_eq_true_eq, decide_eq_false_iff_not, Bool.not_eq_true', Bool.not_eq_false', beq_iff_eq, bne_iff_ne, beq_eq_false_iff_ne, bne_eq_false_iff_eq, ne_eq, gt_iff_lt, ge_iff_le, Int.not_lt, Int.not_le, Decidable.not_not, Int.toNat_natCast, Int.ofNat_lt, Int.ofNat_le, Nat.not_lt, Nat.not_le] at *; omega)) ?_
  rw [IntWalk.i64_in (left - (l.length : Nat)) (by omega)]
  refine W.seq ?_
  refine W.seq ?_
  refine W.reg X [] [] [1, 10] [] rfl (by (repeat' (first | exact True.intro | apply And.intro)) <;> first | (intros; omega) | exact rfl | exact El_all _ (by decide) | exact (u8w _).1 | exact (u8w _).2 | exact (u8n _).1 | exact (u8n _).2 | (simp only [byt, maxLen, List.length_append, List.length_singleton, List.length_cons, List.length_nil, List.length_replicate, List.length_set]; omega) | (intros; simp only [decide_eq_true_eq, decide_eq_false_iff_not, Bool.not_eq_true', Bool.not_eq_false', beq_iff_eq, bne_iff_ne, beq_eq_false_iff_ne, bne_eq_false_iff_eq, ne_eq, gt_iff_lt, ge_iff_le, Int.not_lt, Int.not_le, Decidable.not_not, Int.toNat_natCast, Int.ofNat_lt, Int.ofNat_le, Nat.not_lt, Nat.not_le] at *; omega)) ?_
  refine W.cond rfl (fun hb0 => ?_) (fun hb0 => ?_)
  · try simp only [decide_eq_true_eq, decide_eq_false_iff_not, Bool.not_eq_true', Bool.not_eq_false', beq_iff_eq, bne_iff_ne, beq_eq_false_iff_ne, bne_eq_false_iff_eq, ne_eq, gt_iff_lt, ge_iff_le, Int.not_lt, Int.not_le, Decidable.not_not, Int.toNat_natCast, Int.ofNat_lt, Int.ofNat_le, Nat.not_lt, Nat.not_le] at hb0
    refine W.seq ?_
    refine W.reg X [] [] [4] [] rfl (by (repeat' (first | exact True.intro | apply And.intro)) <;> first | (intros; omega) | exact rfl | exact El_all _ (by decide) | exact (u8w _).1 | exact (u8w _).2 | exact (u8n _).1 | exact (u8n _).2 | (simp only [byt, maxLen, List.length_append, List.length_singleton, List.length_cons, List.length_nil, List.length_replicate, List.length_set]; omega) | (intros; simp only [decide_eq_true_eq, decide_eq_false_iff_not, Bool.not_eq_true', Bool.not_eq_false', beq_iff_eq, bne_iff_ne, beq_eq_false_iff_ne, bne_eq_false_iff_eq, ne_eq, gt_iff_lt, ge_iff_le, Int.not_lt, Int.not_le, Decidable.not_not, Int.toNat_natCast, Int.ofNat_lt, Int.ofNat_le, Nat.not_lt, Nat.not_le] at *; omega)) ?_
    refine W.ret ?_
    exact Fin.ret rfl ⟨by rw [szr_lt (by omega)], ⟨⟩⟩
  · try simp only [decide_eq_true_eq, decide_eq_false_iff_not, Bool.not_eq_true', Bool.not_eq_false', beq_iff_eq, bne_iff_ne, beq_eq_false_iff_ne, bne_eq_false_iff_eq, ne_eq, gt_iff_lt, ge_iff_le, Int.not_lt, Int.not_le, Decidable.not_not, Int.toNat_natCast, Int.ofNat_lt, Int.ofNat_le, Nat.not_lt, Nat.not_le] at hb0
    refine W.skip ?_
    refine W.seq ?_
    refine W.reg X [] [] [4] [] rfl (by (repeat' (first | exact True.intro | apply And.intro)) <;> first | (intros; omega) | exact rfl | exact El_all _ (by decide) | exact (u8w _).1 | exact (u8w _).2 | exact (u8n _).1 | exact (u8n _).2 | (simp only [byt, maxLen, List.length_append, List.length_singleton, List.length_cons, List.length_nil, List.length_replicate, List.length_set]; omega) | (intros; simp only [decide_eq_true_eq, decide_eq_false_iff_not, Bool.not_eq_true', Bool.not_eq_false', beq_iff_eq, bne_iff_ne, beq_eq_false_iff_ne, bne_eq_false_iff_eq, ne_eq, gt_iff_lt, ge_iff_le, Int.not_lt, Int.not_le, Decidable.not_not, Int.toNat_natCast, Int.ofNat_lt, Int.ofNat_le, Nat.not_lt, Nat.not_le] at *; omega)) ?_
    refine W.ret ?_
    exact Fin.ret rfl ⟨by rw [szr_ge (by omega)], ⟨⟩⟩
theorem c_szReceivedShare (x : RShare) (left : Int) (h0 : 0 ≤ left) (h1 : left ≤ 1048576) : Sound ty Try.prog 163 [.agg (dec_RShare x), .a (.lit (.int .i64 left))] [.a (.lit (.int .i64 (szr left (size_RShare x))))] := by
  refine Sound.of X Try.call163 Try.func163 rfl rfl (by decide) Try.ntmps163 (by simp) ?_
  intro zb
  refine W.seq ?_
  refine W.reg X [] [] [1, 2] [] rfl (by (repeat' (first | exact True.intro | apply And.intro)) <;> first | (intros; omega) | exact rfl | exact El_all _ (by decide) | exact (u8w _).1 | exact (u8w _).2 | exact (u8n _).1 | exact (u8n _).2 | (simp only [byt, maxLen, List.length_append, List.length_singleton, List.length_cons, List.length_nil, List.length_replicate, List.length_set]; omega) | (intros; simp only [decide_eq_true_eq, decide_eq_false_iff_not, Bool.not_eq_true', Bool.not_eq_false', beq_iff_eq, bne_iff_ne, beq_eq_false_iff_ne, bne_eq_false_iff_eq, ne_eq, gt_iff_lt, ge_iff_le, Int.not_lt, Int.not_le, Decidable.not_not, Int.toNat_natCast, Int.ofNat_lt, Int.ofNat_le, Nat.not_lt, Nat.not_le] at *; omega)) ?_
  refine W.seq ?_
  refine W.reg X [] [(8, ⟨false, [.a (.lit (.int .i64 (szr (left) (size_DB x.share))))]⟩)] [1] [] rfl ⟨c_szDatabase x.share (left) (by omega) (by omega), ⟨⟩⟩ ?_
  refine W.seq ?_
  refine W.seq ?_
  refine W.reg X [] [] [1, 10] [] rfl (by (repeat' (first | exact True.intro | apply And.intro)) <;> first | (intros; omega) | exact rfl | exact El_all _ (by decide) | exact (u8w _).1 | exact (u8w _).2 | exact (u8n _).1 | exact (u8n _).2 | (simp only [byt, maxLen, List.length_append, List.length_singleton, List.length_cons, List.length_nil, List.length_replicate, List.length_set]; omega) | (intros; simp only [decide_eq_true_eq, decide_eq_false_iff_not, Bool.not_eq_true', Bool.not_eq_false', beq_iff_eq, bne_iff_ne, beq_eq_false_iff_ne, bne_eq_false_iff_eq, ne_eq, gt_iff_lt, ge_iff_le, Int.not_lt, Int.not_le, Decidable.not_not, Int.toNat_natCast, Int.ofNat_lt, Int.ofNat_le, Nat.not_lt, Nat.not_le] at *; omega)) ?_
  refine W.cond rfl (fun hb0 => ?_) (fun hb0 => ?_)
  · try simp only [decide_eq_true_eq, decide_eq_false_iff_not, Bool.not_eq_true', Bool.not_eq_false', beq_iff_eq, bne_iff_ne, beq_eq_false_iff_ne, bne_eq_false_iff_eq, ne_eq, gt_iff_lt, ge_iff_le, Int.not_lt, Int.not_le, Decidable.not_not, Int.toNat_natCast, Int.ofNat_lt, Int.ofNat_le, Nat.not_lt, Nat.not_le] at hb0
    refine W.seq ?_
    refine W.reg X [] [] [4] [] rfl (by (repeat' (first | exact True.intro | apply And.intro)) <;> first | (intros; omega) | exact rfl | exact El_all _ (by decide) | exact (u8w _).1 | exact (u8w _).2 | exact (u8n _).1 | exact (u8n _).2 | (simp only [byt, maxLen, List.length_append, List.length_singleton, List.length_cons, List.length_nil, List.length_replicate, List.length_set]; omega) | (intros; simp only [decide_eq_true_eq, decide_eq_false_iff_not, Bool.not_eq_true', Bool.not_eq_false', beq_iff_eq, bne_iff_ne, beq_eq_false_iff_ne, bne_eq_false_iff_eq, ne_eq, gt_iff_lt, ge_iff_le, Int.not_lt, Int.not_le, Decidable.not_not, Int.toNat_natCast, Int.ofNat_lt, Int.ofNat_le, Nat.not_lt, Nat.not_le] at *; omega)) ?_
    refine W.ret ?_
    exact Fin.ret rfl ⟨by rw [szr_lt (by have := szr_neg (by omega) hb0; unfold size_RShare; omega)], ⟨⟩⟩
  · try simp only [decide_eq_true_eq, decide_eq_false_iff_not, Bool.not_eq_true', Bool.not_eq_false', beq_iff_eq, bne_iff_ne, beq_eq_false_iff_ne, bne_eq_false_iff_eq, ne_eq, gt_iff_lt, ge_iff_le, Int.not_lt, Int.not_le, Decidable.not_not, Int.toNat_natCast, Int.ofNat_lt, Int.ofNat_le, Nat.not_lt, Nat.not_le] at hb0
    obtain ⟨e0, e0'⟩ := szr_pos hb0
    rw [e0]
    refine W.skip ?_
    refine W.seq ?_
    refine W.reg X [] [] [4] [] rfl (by (repeat' (first | exact True.intro | apply And.intro)) <;> first | (intros; omega) | exact rfl | exact El_all _ (by decide) | exact (u8w _).1 | exact (u8w _).2 | exact (u8n _).1 | exact (u8n _).2 | (simp only [byt, maxLen, List.length_append, List.length_singleton, List.length_cons, List.length_nil, List.length_replicate, List.length_set]; omega) | (intros; simp only [decide_eq_true_eq, decide_eq_false_iff_not, Bool.not_eq_true', Bool.not_eq_false', beq_iff_eq, bne_iff_ne, beq_eq_false_iff_ne, bne_eq_false_iff_eq, ne_eq, gt_iff_lt, ge_iff_le, Int.not_lt, Int.not_le, Decidable.not_not, Int.toNat_natCast, Int.ofNat_lt, Int.ofNat_le, Nat.not_lt, Nat.not_le] at *; omega)) ?_
    refine W.ret ?_
    exact Fin.ret rfl ⟨by rw [szr_ge (by unfold size_RShare; omega)]; first | done | (congr 1; done) | (congr 1; unfold size_RShare; omega), ⟨⟩⟩
theorem c_szReceivedShareS (l : (List RShare)) (left : Int) (h0 : 0 ≤ left) (h1 : left ≤ 1048576) : Sound ty Try.prog 130 [.a (.sl .RShare l), .a (.lit (.int .i64 left))] [.a (.lit (.int .i64 (szr left ((lsz size_RShare) l))))] := by
  refine Sound.of X Try.call130 Try.func130 rfl rfl (by decide) Try.ntmps130 (by simp) ?_
  intro zb
  refine W.bound 0 rfl fun hl => ?_
  refine W.seq ?_
  refine W.reg X [] [] [0, 1] [] rfl (by (repeat' (first | exact True.intro | apply And.intro)) <;> first | (intros; omega) | exact rfl | exact El_all _ (by decide) | exact (u8w _).1 | exact (u8w _).2 | exact (u8n _).1 | exact (u8n _).2 | (simp only [byt, maxLen, List.length_append, List.length_singleton, List.length_cons, List.length_nil, List.length_replicate, List.length_set]; omega) | (intros; simp only [decide_eq_true_eq, decide_eq_false_iff_not, Bool.not_eq_true', Bool.not_eq_false', beq_iff_eq, bne_iff_ne, beq_eq_false_iff_ne, bne_eq_false_iff_eq, ne_eq, gt_iff_lt, ge_iff_le, Int.not_lt, Int.not_le, Decidable.not_not, Int.toNat_natCast, Int.ofNat_lt, Int.ofNat_le, Nat.not_lt, Nat.not_le] at *; omega)) ?_
  refine W.seq ?_
  refine W.reg X [] [] [0, 1] [] rfl (by (repeat' (first | exact True.intro | apply And.intro)) <;> first | (intros; omega) | exact rfl | exact El_all _ (by decide) | exact (u8w _).1 | exact (u8w _).2 | exact (u8n _).1 | exact (u8n _).2 | (simp only [byt, maxLen, List.length_append, List.length_singleton, List.length_cons, List.length_nil, List.length_replicate, List.length_set]; omega) | (intros; simp only [decide_eq_true_eq, decide_eq_false_iff_not, Bool.not_eq_true', Bool.not_eq_false', beq_iff_eq, bne_iff_ne, beq_eq_false_iff_ne, bne_eq_false_iff_eq, ne_eq, gt_iff_lt, ge_iff_le, Int.not_lt, Int.not_le, Decidable.not_not, Int.toNat_natCast, Int.ofNat_lt, Int.ofNat_le, Nat.not_lt, Nat.not_le] at *; omega)) ?_
  rw [IntWalk.i64_in (left - (l.length : Nat)) (by omega)]
  refine W.seq ?_
  refine W.seq ?_
  refine W.reg X [] [] [0, 1, 11] [] rfl (by (repeat' (first | exact True.intro | apply And.intro)) <;> first | (intros; omega) | exact rfl | exact El_all _ (by decide) | exact (u8w _).1 | exact (u8w _).2 | exact (u8n _).1 | exact (u8n _).2 | (simp only [byt, maxLen, List.length_append, List.length_singleton, List.length_cons, List.length_nil, List.length_replicate, List.length_set]; omega) | (intros; simp only [decide_eq_true_eq, decide_eq_false_iff_not, Bool.not_eq_true', Bool.not_eq_false', beq_iff_eq, bne_iff_ne, beq_eq_false_iff_ne, bne_eq_false_iff_eq, ne_eq, gt_iff_lt, ge_iff_le, Int.not_lt, Int.not_le, Decidable.not_not, Int.toNat_natCast, Int.ofNat_lt, Int.ofNat_le, Nat.not_lt, Nat.not_le] at *; omega)) ?_
  refine W.cond rfl (fun hb0 => ?_) (fun hb0 => ?_)
  · try simp only [decide_eq_true_eq, decide_eq_false_iff_not, Bool.not_eq_true', Bool.not_eq_false', beq_iff_eq, bne_iff_ne, beq_eq_false_iff_ne, bne_eq_false_iff_eq, ne_eq, gt_iff_lt, ge_iff_le, Int.not_lt, Int.not_le, Decidable.not_not, Int.toNat_natCast, Int.ofNat_lt, Int.ofNat_le, Nat.not_lt, Nat.not_le] at hb0
    refine W.seq ?_
    refine W.reg X [] [] [4] [] rfl (by (repeat' (first | exact True.intro | apply And.intro)) <;> first | (intros; omega) | exact rfl | exact El_all _ (by decide) | exact (u8w _).1 | exact (u8w _).2 | exact (u8n _).1 | exact (u8n _).2 | (simp only [byt, maxLen, List.length_append, List.length_singleton, List.length_cons, List.length_nil, List.length_replicate, List.length_set]; omega) | (intros; simp only [decide_eq_true_eq, decide_eq_false_iff_not, Bool.not_eq_true', Bool.not_eq_false', beq_iff_eq, bne_iff_ne, beq_eq_false_iff_ne, bne_eq_false_iff_eq, ne_eq, gt_iff_lt, ge_iff_le, Int.not_lt, Int.not_le, Decidable.not_not, Int.toNat_natCast, Int.ofNat_lt, Int.ofNat_le, Nat.not_lt, Nat.not_le] at *; omega)) ?_
    refine W.ret ?_
    exact Fin.ret rfl ⟨by rw [szr_lt (by unfold lsz; omega)], ⟨⟩⟩
  · try simp only [decide_eq_true_eq, decide_eq_false_iff_not, Bool.not_eq_true', Bool.not_eq_false', beq_iff_eq, bne_iff_ne, beq_eq_false_iff_ne, bne_eq_false_iff_eq, ne_eq, gt_iff_lt, ge_iff_le, Int.not_lt, Int.not_le, Decidable.not_not, Int.toNat_natCast, Int.ofNat_lt, Int.ofNat_le, Nat.not_lt, Nat.not_le] at hb0
    refine W.skip ?_
    refine W.seq ?_
    refine W.seq ?_
    refine W.reg X [] [] [0, 1, 5] [] rfl (by (repeat' (first | exact True.intro | apply And.intro)) <;> first | (intros; omega) | exact rfl | exact El_all _ (by decide) | exact (u8w _).1 | exact (u8w _).2 | exact (u8n _).1 | exact (u8n _).2 | (simp only [byt, maxLen, List.length_append, List.length_singleton, List.length_cons, List.length_nil, List.length_replicate, List.length_set]; omega) | (intros; simp only [decide_eq_true_eq, decide_eq_false_iff_not, Bool.not_eq_true', Bool.not_eq_false', beq_iff_eq, bne_iff_ne, beq_eq_false_iff_ne, bne_eq_false_iff_eq, ne_eq, gt_iff_lt, ge_iff_le, Int.not_lt, Int.not_le, Decidable.not_not, Int.toNat_natCast, Int.ofNat_lt, Int.ofNat_le, Nat.not_lt, Nat.not_le] at *; omega)) ?_
    refine W.block ?_
    refine W.loopO (fun k => k ≤ l.length ∧ (l.length : Int) + (((l.take k).map size_RShare).sum : Nat) ≤ left) (fun k : Nat => [(1, .one (.a (.lit (.int .i64 (left - (l.length : Nat) - (((l.take k).map size_RShare).sum : Nat)))))), (5, .one (.a (.lit (.int .i64 k))))]) (fun k => []) (fun k => l.length - k) 0 (fun k => rfl) ⟨Nat.zero_le _, by simp; omega⟩ (by simp) ?_
    rintro k ⟨hk, hs⟩
    refine W.seq ?_
    refine W.seq ?_
    refine W.reg X [] [] [0, 1, 5, 15] [] rfl (by (repeat' (first | exact True.intro | apply And.intro)) <;> first | (intros; omega) | exact rfl | exact El_all _ (by decide) | exact (u8w _).1 | exact (u8w _).2 | exact (u8n _).1 | exact (u8n _).2 | (simp only [byt, maxLen, List.length_append, List.length_singleton, List.length_cons, List.length_nil, List.length_replicate, List.length_set]; omega) | (intros; simp only [decide_eq_true_eq, decide_eq_false_iff_not, Bool.not_eq_true', Bool.not_eq_false', beq_iff_eq, bne_iff_ne, beq_eq_false_iff_ne, bne_eq_false_iff_eq, ne_eq, gt_iff_lt, ge_iff_le, Int.not_lt, Int.not_le, Decidable.not_not, Int.toNat_natCast, Int.ofNat_lt, Int.ofNat_le, Nat.not_lt, Nat.not_le] at *; omega)) ?_
    refine W.cond rfl (fun hb1 => ?_) (fun hb1 => ?_)
    · try simp only [decide_eq_true_eq, decide_eq_false_iff_not, Bool.not_eq_true', Bool.not_eq_false', beq_iff_eq, bne_iff_ne, beq_eq_false_iff_ne, bne_eq_false_iff_eq, ne_eq, gt_iff_lt, ge_iff_le, Int.not_lt, Int.not_le, Decidable.not_not, Int.toNat_natCast, Int.ofNat_lt, Int.ofNat_le, Nat.not_lt, Nat.not_le] at hb1
      have hsum := sum_step size_RShare l (dfl .RShare) k hb1
      have hle := take_sum_le l size_RShare (k + 1)
      refine W.skip ?_
      refine W.seq ?_
      refine W.block ?_
      refine W.seq ?_
      refine W.reg X [] [(23, ⟨false, [.a (.lit (.int .i64 (szr (left - (l.length : Nat) - (((l.take k).map size_RShare).sum : Nat)) (size_RShare (l.getD k (dfl .RShare))))))]⟩)] [0, 1, 5] [] rfl ⟨c_szReceivedShare (l.getD k (dfl .RShare)) _ (by omega) (by omega), by omega, ⟨⟩⟩ ?_
      refine W.seq ?_
      refine W.reg X [] [] [0, 1, 5, 25] [] rfl (by (repeat' (first | exact True.intro | apply And.intro)) <;> first | (intros; omega) | exact rfl | exact El_all _ (by decide) | exact (u8w _).1 | exact (u8w _).2 | exact (u8n _).1 | exact (u8n _).2 | (simp only [byt, maxLen, List.length_append, List.length_singleton, List.length_cons, List.length_nil, List.length_replicate, List.length_set]; omega) | (intros; simp only [decide_eq_true_eq, decide_eq_false_iff_not, Bool.not_eq_true', Bool.not_eq_false', beq_iff_eq, bne_iff_ne, beq_eq_false_iff_ne, bne_eq_false_iff_eq, ne_eq, gt_iff_lt, ge_iff_le, Int.not_lt, Int.not_le, Decidable.not_not, Int.toNat_natCast, Int.ofNat_lt, Int.ofNat_le, Nat.not_lt, Nat.not_le] at *; omega)) ?_
      refine W.cond rfl (fun hb2 => ?_) (fun hb2 => ?_)
      · try simp only [decide_eq_true_eq, decide_eq_false_iff_not, Bool.not_eq_true', Bool.not_eq_false', beq_iff_eq, bne_iff_ne, beq_eq_false_iff_ne, bne_eq_false_iff_eq, ne_eq, gt_iff_lt, ge_iff_le, Int.not_lt, Int.not_le, Decidable.not_not, Int.toNat_natCast, Int.ofNat_lt, Int.ofNat_le, Nat.not_lt, Nat.not_le] at hb2
        have hn := szr_neg (by omega) hb2
        refine W.seq ?_
        refine W.reg X [] [] [4] [] rfl (by (repeat' (first | exact True.intro | apply And.intro)) <;> first | (intros; omega) | exact rfl | exact El_all _ (by decide) | exact (u8w _).1 | exact (u8w _).2 | exact (u8n _).1 | exact (u8n _).2 | (simp only [byt, maxLen, List.length_append, List.length_singleton, List.length_cons, List.length_nil, List.length_replicate, List.length_set]; omega) | (intros; simp only [decide_eq_true_eq, decide_eq_false_iff_not, Bool.not_eq_true', Bool.not_eq_false', beq_iff_eq, bne_iff_ne, beq_eq_false_iff_ne, bne_eq_false_iff_eq, ne_eq, gt_iff_lt, ge_iff_le, Int.not_lt, Int.not_le, Decidable.not_not, Int.toNat_natCast, Int.ofNat_lt, Int.ofNat_le, Nat.not_lt, Nat.not_le] at *; omega)) ?_
        refine W.ret ?_
        exact Fin.ret rfl ⟨by rw [szr_lt (by unfold lsz; omega)], ⟨⟩⟩
      · try simp only [decide_eq_true_eq, decide_eq_false_iff_not, Bool.not_eq_true', Bool.not_eq_false', beq_iff_eq, bne_iff_ne, beq_eq_false_iff_ne, bne_eq_false_iff_eq, ne_eq, gt_iff_lt, ge_iff_le, Int.not_lt, Int.not_le, Decidable.not_not, Int.toNat_natCast, Int.ofNat_lt, Int.ofNat_le, Nat.not_lt, Nat.not_le] at hb2
        obtain ⟨e2, e3⟩ := szr_pos hb2
        rw [e2]
        refine W.skip ?_
        refine W.reg X [] [] [0, 1, 5] [] rfl (by (repeat' (first | exact True.intro | apply And.intro)) <;> first | (intros; omega) | exact rfl | exact El_all _ (by decide) | exact (u8w _).1 | exact (u8w _).2 | exact (u8n _).1 | exact (u8n _).2 | (simp only [byt, maxLen, List.length_append, List.length_singleton, List.length_cons, List.length_nil, List.length_replicate, List.length_set]; omega) | (intros; simp only [decide_eq_true_eq, decide_eq_false_iff_not, Bool.not_eq_true', Bool.not_eq_false', beq_iff_eq, bne_iff_ne, beq_eq_false_iff_ne, bne_eq_false_iff_eq, ne_eq, gt_iff_lt, ge_iff_le, Int.not_lt, Int.not_le, Decidable.not_not, Int.toNat_natCast, Int.ofNat_lt, Int.ofNat_le, Nat.not_lt, Nat.not_le] at *; omega)) ?_
        refine ⟨k + 1, ⟨by omega, by omega⟩, by omega, ?_⟩
        rw [wadd _ k rfl (by omega), show left - (l.length : Nat) - (((l.take k).map size_RShare).sum : Nat) - (size_RShare (l.getD k (dfl .RShare)) : Nat) = left - (l.length : Nat) - (((l.take (k + 1)).map size_RShare).sum : Nat) by omega]
    · try simp only [decide_eq_true_eq, decide_eq_false_iff_not, Bool.not_eq_true', Bool.not_eq_false', beq_iff_eq, bne_iff_ne, beq_eq_false_iff_ne, bne_eq_false_iff_eq, ne_eq, gt_iff_lt, ge_iff_le, Int.not_lt, Int.not_le, Decidable.not_not, Int.toNat_natCast, Int.ofNat_lt, Int.ofNat_le, Nat.not_lt, Nat.not_le] at hb1
      refine W.exit ?_
      refine W.seq ?_
      refine W.reg X [] [] [4] [] rfl (by (repeat' (first | exact True.intro | apply And.intro)) <;> first | (intros; omega) | exact rfl | exact El_all _ (by decide) | exact (u8w _).1 | exact (u8w _).2 | exact (u8n _).1 | exact (u8n _).2 | (simp only [byt, maxLen, List.length_append, List.length_singleton, List.length_cons, List.length_nil, List.length_replicate, List.length_set]; omega) | (intros; simp only [decide_eq_true_eq, decide_eq_false_iff_not, Bool.not_eq_true', Bool.not_eq_false', beq_iff_eq, bne_iff_ne, beq_eq_false_iff_ne, bne_eq_false_iff_eq, ne_eq, gt_iff_lt, ge_iff_le, Int.not_lt, Int.not_le, Decidable.not_not, Int.toNat_natCast, Int.ofNat_lt, Int.ofNat_le, Nat.not_lt, Nat.not_le] at *; omega)) ?_
      refine W.ret ?_
      have hf : l.take k = l := List.take_of_length_le (by omega)
      rw [hf] at hs
      exact Fin.ret rfl ⟨by rw [hf, szr_ge (by unfold lsz; omega)]; congr 1; unfold lsz; omega, ⟨⟩⟩
theorem c_szServer (x : Srv) (left : Int) (h0 : 0 ≤ left) (h1 : left ≤ 1048576) : Sound ty Try.prog 93 [.agg (dec_Srv x), .a (.lit (.int .i64 left))] [.a (.lit (.int .i64 (szr left (size_Srv x))))] := by
  refine Sound.of X Try.call93 Try.func93 rfl rfl (by decide) Try.ntmps93 (by simp) ?_
  intro zb
  refine W.seq ?_
  refine W.reg X [] [] [1, 2] [] rfl (by (repeat' (first | exact True.intro | apply And.intro)) <;> first | (intros; omega) | exact rfl | exact El_all _ (by decide) | exact (u8w _).1 | exact (u8w _).2 | exact (u8n _).1 | exact (u8n _).2 | (simp only [byt, maxLen, List.length_append, List.length_singleton, List.length_cons, List.length_nil, List.length_replicate, List.length_set]; omega) | (intros; simp only [decide_eq_true_eq, decide_eq_false_iff_not, Bool.not_eq_true', Bool.not_eq_false', beq_iff_eq, bne_iff_ne, beq_eq_false_iff_ne, bne_eq_false_iff_eq, ne_eq, gt_iff_lt, ge_iff_le, Int.not_lt, Int.not_le, Decidable.not_not, Int.toNat_natCast, Int.ofNat_lt, Int.ofNat_le, Nat.not_lt, Nat.not_le] at *; omega)) ?_
  refine W.seq ?_
  refine W.reg X [] [(8, ⟨false, [.a (.lit (.int .i64 (szr (left) ((lsz size_RShare) x.received))))]⟩)] [1] [] rfl ⟨c_szReceivedShareS x.received (left) (by omega) (by omega), ⟨⟩⟩ ?_
  refine W.seq ?_
  refine W.seq ?_
  refine W.reg X [] [] [1, 10] [] rfl (by (repeat' (first | exact True.intro | apply And.intro)) <;> first | (intros; omega) | exact rfl | exact El_all _ (by decide) | exact (u8w _).1 | exact (u8w _).2 | exact (u8n _).1 | exact (u8n _).2 | (simp only [byt, maxLen, List.length_append, List.length_singleton, List.length_cons, List.length_nil, List.length_replicate, List.length_set]; omega) | (intros; simp only [decide_eq_true_eq, decide_eq_false_iff_not, Bool.not_eq_true', Bool.not_eq_false', beq_iff_eq, bne_iff_ne, beq_eq_false_iff_ne, bne_eq_false_iff_eq, ne_eq, gt_iff_lt, ge_iff_le, Int.not_lt, Int.not_le, Decidable.not_not, Int.toNat_natCast, Int.ofNat_lt, Int.ofNat_le, Nat.not_lt, Nat.not_le] at *; omega)) ?_
  refine W.cond rfl (fun hb0 => ?_) (fun hb0 => ?_)
  · try simp only [decide_eq_true_eq, decide_eq_false_iff_not, Bool.not_eq_true', Bool.not_eq_false', beq_iff_eq, bne_iff_ne, beq_eq_false_iff_ne, bne_eq_false_iff_eq, ne_eq, gt_iff_lt, ge_iff_le, Int.not_lt, Int.not_le, Decidable.not_not, Int.toNat_natCast, Int.ofNat_lt, Int.ofNat_le, Nat.not_lt, Nat.not_le] at hb0
    refine W.seq ?_
    refine W.reg X [] [] [4] [] rfl (by (repeat' (first | exact True.intro | apply And.intro)) <;> first | (intros; omega) | exact rfl | exact El_all _ (by decide) | exact (u8w _).1 | exact (u8w _).2 | exact (u8n _).1 | exact (u8n _).2 | (simp only [byt, maxLen, List.length_append, List.length_singleton, List.length_cons, List.length_nil, List.length_replicate, List.length_set]; omega) | (intros; simp only [decide_eq_true_eq, decide_eq_false_iff_not, Bool.not_eq_true', Bool.not_eq_false', beq_iff_eq, bne_iff_ne, beq_eq_false_iff_ne, bne_eq_false_iff_eq, ne_eq, gt_iff_lt, ge_iff_le, Int.not_lt, Int.not_le, Decidable.not_not, Int.toNat_natCast, Int.ofNat_lt, Int.ofNat_le, Nat.not_lt, Nat.not_le] at *; omega)) ?_
    refine W.ret ?_
    exact Fin.ret rfl ⟨by rw [szr_lt (by have := szr_neg (by omega) hb0; unfold size_Srv; omega)], ⟨⟩⟩
  · try simp only [decide_eq_true_eq, decide_eq_false_iff_not, Bool.not_eq_true', Bool.not_eq_false', beq_iff_eq, bne_iff_ne, beq_eq_false_iff_ne, bne_eq_false_iff_eq, ne_eq, gt_iff_lt, ge_iff_le, Int.not_lt, Int.not_le, Decidable.not_not, Int.toNat_natCast, Int.ofNat_lt, Int.ofNat_le, Nat.not_lt, Nat.not_le] at hb0
    obtain ⟨e0, e0'⟩ := szr_pos hb0
    rw [e0]
    refine W.skip ?_
    refine W.seq ?_
    refine W.reg X [] [] [4] [] rfl (by (repeat' (first | exact True.intro | apply And.intro)) <;> first | (intros; omega) | exact rfl | exact El_all _ (by decide) | exact (u8w _).1 | exact (u8w _).2 | exact (u8n _).1 | exact (u8n _).2 | (simp only [byt, maxLen, List.length_append, List.length_singleton, List.length_cons, List.length_nil, List.length_replicate, List.length_set]; omega) | (intros; simp only [decide_eq_true_eq, decide_eq_false_iff_not, Bool.not_eq_true', Bool.not_eq_false', beq_iff_eq, bne_iff_ne, beq_eq_false_iff_ne, bne_eq_false_iff_eq, ne_eq, gt_iff_lt, ge_iff_le, Int.not_lt, Int.not_le, Decidable.not_not, Int.toNat_natCast, Int.ofNat_lt, Int.ofNat_le, Nat.not_lt, Nat.not_le] at *; omega)) ?_
    refine W.ret ?_
    exact Fin.ret rfl ⟨by rw [szr_ge (by unfold size_Srv; omega)]; first | done | (congr 1; done) | (congr 1; unfold size_Srv; omega), ⟨⟩⟩
theorem c_szServerS (l : (List Srv)) (left : Int) (h0 : 0 ≤ left) (h1 : left ≤ 1048576) : Sound ty Try.prog 49 [.a (.sl .Srv l), .a (.lit (.int .i64 left))] [.a (.lit (.int .i64 (szr left ((lsz size_Srv) l))))] := by
  refine Sound.of X Try.call49 Try.func49 rfl rfl (by decide) Try.ntmps49 (by simp) ?_
  intro zb
  refine W.bound 0 rfl fun hl => ?_
  refine W.seq ?_
  refine W.reg X [] [] [0, 1] [] rfl (by (repeat' (first | exact True.intro | apply And.intro)) <;> first | (intros; omega) | exact rfl | exact El_all _ (by decide) | exact (u8w _).1 | exact (u8w _).2 | exact (u8n _).1 | exact (u8n _).2 | (simp only [byt, maxLen, List.length_append, List.length_singleton, List.length_cons, List.length_nil, List.length_replicate, List.length_set]; omega) | (intros; simp only [decide_eq_true_eq, decide_eq_false_iff_not, Bool.not_eq_true', Bool.not_eq_false', beq_iff_eq, bne_iff_ne, beq_eq_false_iff_ne, bne_eq_false_iff_eq, ne_eq, gt_iff_lt, ge_iff_le, Int.not_lt, Int.not_le, Decidable.not_not, Int.toNat_natCast, Int.ofNat_lt, Int.ofNat_le, Nat.not_lt, Nat.not_le] at *; omega)) ?_
  refine W.seq ?_
  refine W.reg X [] [] [0, 1] [] rfl (by (repeat' (first | exact True.intro | apply And.intro)) <;> first | (intros; omega) | exact rfl | exact El_all _ (by decide) | exact (u8w _).1 | exact (u8w _).2 | exact (u8n _).1 | exact (u8n _).2 | (simp only [byt, maxLen, List.length_append, List.length_singleton, List.length_cons, List.length_nil, List.length_replicate, List.length_set]; omega) | (intros; simp only [decide_eq_true_eq, decide_eq_false_iff_not, Bool.not_eq_true', Bool.not_eq_false', beq_iff_eq, bne_iff_ne, beq_eq_false_iff_ne, bne_eq_false_iff_eq, ne_eq, gt_iff_lt, ge_iff_le, Int.not_lt, Int.not_le, Decidable.not_not, Int.toNat_natCast, Int.ofNat_lt, Int.ofNat_le, Nat.not_lt, Nat.not_le] at *; omega)) ?_
  rw [IntWalk.i64_in (left - (l.length : Nat)) (by omega)]
  refine W.seq ?_
  refine W.seq ?_
  refine W.reg X [] [] [0, 1, 11] [] rfl (by (repeat' (first | exact True.intro | apply And.intro)) <;> first | (intros; omega) | exact rfl | exact El_all _ (by decide) | exact (u8w _).1 | exact (u8w _).2 | exact (u8n _).1 | exact (u8n _).2 | (simp only [byt, maxLen, List.length_append, List.length_singleton, List.length_cons, List.length_nil, List.length_replicate, List.length_set]; omega) | (intros; simp only [decide_eq_true_eq, decide_eq_false_iff_not, Bool.not_eq_true', Bool.not_eq_false', beq_iff_eq, bne_iff_ne, beq_eq_false_iff_ne, bne_eq_false_iff_eq, ne_eq, gt_iff_lt, ge_iff_le, Int.not_lt, Int.not_le, Decidable.not_not, Int.toNat_natCast, Int.ofNat_lt, Int.ofNat_le, Nat.not_lt, Nat.not_le] at *; omega)) ?_
  refine W.cond rfl (fun hb0 => ?_) (fun hb0 => ?_)
  · try simp only [decide_eq_true_eq, decide_eq_false_iff_not, Bool.not_eq_true', Bool.not_eq_false', beq_iff_eq, bne_iff_ne, beq_eq_false_iff_ne, bne_eq_false_iff_eq, ne_eq, gt_iff_lt, ge_iff_le, Int.not_lt, Int.not_le, Decidable.not_not, Int.toNat_natCast, Int.ofNat_lt, Int.ofNat_le, Nat.not_lt, Nat.not_le] at hb0
    refine W.seq ?_
    refine W.reg X [] [] [4] [] rfl (by (repeat' (first | exact True.intro | apply And.intro)) <;> first | (intros; omega) | exact rfl | exact El_all _ (by decide) | exact (u8w _).1 | exact (u8w _).2 | exact (u8n _).1 | exact (u8n _).2 | (simp only [byt, maxLen, List.length_append, List.length_singleton, List.length_cons, List.length_nil, List.length_replicate, List.length_set]; omega) | (intros; simp only [decide_eq_true_eq, decide_eq_false_iff_not, Bool.not_eq_true', Bool.not_eq_false', beq_iff_eq, bne_iff_ne, beq_eq_false_iff_ne, bne_eq_false_iff_eq, ne_eq, gt_iff_lt, ge_iff_le, Int.not_lt, Int.not_le, Decidable.not_not, Int.toNat_natCast, Int.ofNat_lt, Int.ofNat_le, Nat.not_lt, Nat.not_le] at *; omega)) ?_
    refine W.ret ?_
    exact Fin.ret rfl ⟨by rw [szr_lt (by unfold lsz; omega)], ⟨⟩⟩
  · try simp only [decide_eq_true_eq, decide_eq_false_iff_not, Bool.not_eq_true', Bool.not_eq_false', beq_iff_eq, bne_iff_ne, beq_eq_false_iff_ne, bne_eq_false_iff_eq, ne_eq, gt_iff_lt, ge_iff_le, Int.not_lt, Int.not_le, Decidable.not_not, Int.toNat_natCast, Int.ofNat_lt, Int.ofNat_le, Nat.not_lt, Nat.not_le] at hb0
    refine W.skip ?_
    refine W.seq ?_
    refine W.seq ?_
    refine W.reg X [] [] [0, 1, 5] [] rfl (by (repeat' (first | exact True.intro | apply And.intro)) <;> first | (intros; omega) | exact rfl | exact El_all _ (by decide) | exact (u8w _).1 | exact (u8w _).2 | exact (u8n _).1 | exact (u8n _).2 | (simp only [byt, maxLen, List.length_append, List.length_singleton, List.length_cons, List.length_nil, List.length_replicate, List.length_set]; omega) | (intros; simp only [decide_eq_true_eq, decide_eq_false_iff_not, Bool.not_eq_true', Bool.not_eq_false', beq_iff_eq, bne_iff_ne, beq_eq_false_iff_ne, bne_eq_false_iff_eq, ne_eq, gt_iff_lt, ge_iff_le, Int.not_lt, Int.not_le, Decidable.not_not, Int.toNat_natCast, Int.ofNat_lt, Int.ofNat_le, Nat.not_lt, Nat.not_le] at *; omega)) ?_
    refine W.block ?_
    refine W.loopO (fun k => k ≤ l.length ∧ (l.length : Int) + (((l.take k).map size_Srv).sum : Nat) ≤ left) (fun k : Nat => [(1, .one (.a (.lit (.int .i64 (left - (l.length : Nat) - (((l.take k).map size_Srv).sum : Nat)))))), (5, .one (.a (.lit (.int .i64 k))))]) (fun k => []) (fun k => l.length - k) 0 (fun k => rfl) ⟨Nat.zero_le _, by simp; omega⟩ (by simp) ?_
    rintro k ⟨hk, hs⟩
    refine W.seq ?_
    refine W.seq ?_
    refine W.reg X [] [] [0, 1, 5, 15] [] rfl (by (repeat' (first | exact True.intro | apply And.intro)) <;> first | (intros; omega) | exact rfl | exact El_all _ (by decide) | exact (u8w _).1 | exact (u8w _).2 | exact (u8n _).1 | exact (u8n _).2 | (simp only [byt, maxLen, List.length_append, List.length_singleton, List.length_cons, List.length_nil, List.length_replicate, List.length_set]; omega) | (intros; simp only [decide_eq_true_eq, decide_eq_false_iff_not, Bool.not_eq_true', Bool.not_eq_false', beq_iff_eq, bne_iff_ne, beq_eq_false_iff_ne, bne_eq_false_iff_eq, ne_eq, gt_iff_lt, ge_iff_le, Int.not_lt, Int.not_le, Decidable.not_not, Int.toNat_natCast, Int.ofNat_lt, Int.ofNat_le, Nat.not_lt, Nat.not_le] at *; omega)) ?_
    refine W.cond rfl (fun hb1 => ?_) (fun hb1 => ?_)
    · try simp only [decide_eq_true_eq, decide_eq_false_iff_not, Bool.not_eq_true', Bool.not_eq_false', beq_iff_eq, bne_iff_ne, beq_eq_false_iff_ne, bne_eq_false_iff_eq, ne_eq, gt_iff_lt, ge_iff_le, Int.not_lt, Int.not_le, Decidable.not_not, Int.toNat_natCast, Int.ofNat_lt, Int.ofNat_le, Nat.not_lt, Nat.not_le] at hb1
      have hsum := sum_step size_Srv l (dfl .Srv) k hb1
      have hle := take_sum_le l size_Srv (k + 1)
      refine W.skip ?_
      refine W.seq ?_
      refine W.block ?_
      refine W.seq ?_
      refine W.reg X [] [(23, ⟨false, [.a (.lit (.int .i64 (szr (left - (l.length : Nat) - (((l.take k).map size_Srv).sum : Nat)) (size_Srv (l.getD k (dfl .Srv))))))]⟩)] [0, 1, 5] [] rfl ⟨c_szServer (l.getD k (dfl .Srv)) _ (by omega) (by omega), by omega, ⟨⟩⟩ ?_
      refine W.seq ?_
      refine W.reg X [] [] [0, 1, 5, 25] [] rfl (by (repeat' (first | exact True.intro | apply And.intro)) <;> first | (intros; omega) | exact rfl | exact El_all _ (by decide) | exact (u8w _).1 | exact (u8w _).2 | exact (u8n _).1 | exact (u8n _).2 | (simp only [byt, maxLen, List.length_append, List.length_singleton, List.length_cons, List.length_nil, List.length_replicate, List.length_set]; omega) | (intros; simp only [decide_eq_true_eq, decide_eq_false_iff_not, Bool.not_eq_true', Bool.not_eq_false', beq_iff_eq, bne_iff_ne, beq_eq_false_iff_ne, bne_eq_false_iff_eq, ne_eq, gt_iff_lt, ge_iff_le, Int.not_lt, Int.not_le, Decidable.not_not, Int.toNat_natCast, Int.ofNat_lt, Int.ofNat_le, Nat.not_lt, Nat.not_le] at *; omega)) ?_
      refine W.cond rfl (fun hb2 => ?_) (fun hb2 => ?_)
      · try simp only [decide_eq_true_eq, decide_eq_false_iff_not, Bool.not_eq_true', Bool.not_eq_false', beq_iff_eq, bne_iff_ne, beq_eq_false_iff_ne, bne_eq_false_iff_eq, ne_eq, gt_iff_lt, ge_iff_le, Int.not_lt, Int.not_le, Decidable.not_not, Int.toNat_natCast, Int.ofNat_lt, Int.ofNat_le, Nat.not_lt, Nat.not_le] at hb2
        have hn := szr_neg (by omega) hb2
        refine W.seq ?_
        refine W.reg X [] [] [4] [] rfl (by (repeat' (first | exact True.intro | apply And.intro)) <;> first | (intros; omega) | exact rfl | exact El_all _ (by decide) | exact (u8w _).1 | exact (u8w _).2 | exact (u8n _).1 | exact (u8n _).2 | (simp only [byt, maxLen, List.length_append, List.length_singleton, List.length_cons, List.length_nil, List.length_replicate, List.length_set]; omega) | (intros; simp only [decide_eq_true_eq, decide_eq_false_iff_not, Bool.not_eq_true', Bool.not_eq_false', beq_iff_eq, bne_iff_ne, beq_eq_false_iff_ne, bne_eq_false_iff_eq, ne_eq, gt_iff_lt, ge_iff_le, Int.not_lt, Int.not_le, Decidable.not_not, Int.toNat_natCast, Int.ofNat_lt, Int.ofNat_le, Nat.not_lt, Nat.not_le] at *; omega)) ?_
        refine W.ret ?_
        exact Fin.ret rfl ⟨by rw [szr_lt (by unfold lsz; omega)], ⟨⟩⟩
      · try simp only [decide_eq_true_eq, decide_eq_false_iff_not, Bool.not_eq_true', Bool.not_eq_false', beq_iff_eq, bne_iff_ne, beq_eq_false_iff_ne, bne_eq_false_iff_eq, ne_eq, gt_iff_lt, ge_iff_le, Int.not_lt, Int.not_le, Decidable.not_not, Int.toNat_natCast, Int.ofNat_lt, Int.ofNat_le, Nat.not_lt, Nat.not_le] at hb2
        obtain ⟨e2, e3⟩ := szr_pos hb2
        rw [e2]
        refine W.skip ?_
        refine W.reg X [] [] [0, 1, 5] [] rfl (by (repeat' (first | exact True.intro | apply And.intro)) <;> first | (intros; omega) | exact rfl | exact El_all _ (by decide) | exact (u8w _).1 | exact (u8w _).2 | exact (u8n _).1 | exact (u8n _).2 | (simp only [byt, maxLen, List.length_append, List.length_singleton, List.length_cons, List.length_nil, List.length_replicate, List.length_set]; omega) | (intros; simp only [decide_eq_true_eq, decide_eq_false_iff_not, Bool.not_eq_true', Bool.not_eq_false', beq_iff_eq, bne_iff_ne, beq_eq_false_iff_ne, bne_eq_false_iff_eq, ne_eq, gt_iff_lt, ge_iff_le, Int.not_lt, Int.not_le, Decidable.not_not, Int.toNat_natCast, Int.ofNat_lt, Int.ofNat_le, Nat.not_lt, Nat.not_le] at *; omega)) ?_
        refine ⟨k + 1, ⟨by omega, by omega⟩, by omega, ?_⟩
        rw [wadd _ k rfl (by omega), show left - (l.length : Nat) - (((l.take k).map size_Srv).sum : Nat) - (size_Srv (l.getD k (dfl .Srv)) : Nat) = left - (l.length : Nat) - (((l.take (k + 1)).map size_Srv).sum : Nat) by omega]
    · try simp only [decide_eq_true_eq, decide_eq_false_iff_not, Bool.not_eq_true', Bool.not_eq_false', beq_iff_eq, bne_iff_ne, beq_eq_false_iff_ne, bne_eq_false_iff_eq, ne_eq, gt_iff_lt, ge_iff_le, Int.not_lt, Int.not_le, Decidable.not_not, Int.toNat_natCast, Int.ofNat_lt, Int.ofNat_le, Nat.not_lt, Nat.not_le] at hb1
      refine W.exit ?_
      refine W.seq ?_
      refine W.reg X [] [] [4] [] rfl (by (repeat' (first | exact True.intro | apply And.intro)) <;> first | (intros; omega) | exact rfl | exact El_all _ (by decide) | exact (u8w _).1 | exact (u8w _).2 | exact (u8n _).1 | exact (u8n _).2 | (simp only [byt, maxLen, List.length_append, List.length_singleton, List.length_cons, List.length_nil, List.length_replicate, List.length_set]; omega) | (intros; simp only [decide_eq_true_eq, decide_eq_false_iff_not, Bool.not_eq_true', Bool.not_eq_false', beq_iff_eq, bne_iff_ne, beq_eq_false_iff_ne, bne_eq_false_iff_eq, ne_eq, gt_iff_lt, ge_iff_le, Int.not_lt, Int.not_le, Decidable.not_not, Int.toNat_natCast, Int.ofNat_lt, Int.ofNat_le, Nat.not_lt, Nat.not_le] at *; omega)) ?_
      refine W.ret ?_
      have hf : l.take k = l := List.take_of_length_le (by omega)
      rw [hf] at hs
      exact Fin.ret rfl ⟨by rw [hf, szr_ge (by unfold lsz; omega)]; congr 1; unfold lsz; omega, ⟨⟩⟩
theorem c_szWorld (x : Wld) (left : Int) (h0 : 0 ≤ left) (h1 : left ≤ 1048576) : Sound ty Try.prog 15 [.agg (dec_Wld x), .a (.lit (.int .i64 left))] [.a (.lit (.int .i64 (szr left (size_Wld x))))] := by
  refine Sound.of X Try.call15 Try.func15 rfl rfl (by decide) Try.ntmps15 (by simp) ?_
  intro zb
  refine W.seq ?_
  refine W.reg X [] [] [1, 2] [] rfl (by (repeat' (first | exact True.intro | apply And.intro)) <;> first | (intros; omega) | exact rfl | exact El_all _ (by decide) | exact (u8w _).1 | exact (u8w _).2 | exact (u8n _).1 | exact (u8n _).2 | (simp only [byt, maxLen, List.length_append, List.length_singleton, List.length_cons, List.length_nil, List.length_replicate, List.length_set]; omega) | (intros; simp only [decide_eq_true_eq, decide_eq_false_iff_not, Bool.not_eq_true', Bool.not_eq_false', beq_iff_eq, bne_iff_ne, beq_eq_false_iff_ne, bne_eq_false_iff_eq, ne_eq, gt_iff_lt, ge_iff_le, Int.not_lt, Int.not_le, Decidable.not_not, Int.toNat_natCast, Int.ofNat_lt, Int.ofNat_le, Nat.not_lt, Nat.not_le] at *; omega)) ?_
  refine W.seq ?_
  refine W.reg X [] [(8, ⟨false, [.a (.lit (.int .i64 (szr (left) ((lsz size_Srv) x.servers))))]⟩)] [1, 2] [] rfl ⟨c_szServerS x.servers (left) (by omega) (by omega), ⟨⟩⟩ ?_
  refine W.seq ?_
  refine W.seq ?_
  refine W.reg X [] [] [1, 2, 10] [] rfl (by (repeat' (first | exact True.intro | apply And.intro)) <;> first | (intros; omega) | exact rfl | exact El_all _ (by decide) | exact (u8w _).1 | exact (u8w _).2 | exact (u8n _).1 | exact (u8n _).2 | (simp only [byt, maxLen, List.length_append, List.length_singleton, List.length_cons, List.length_nil, List.length_replicate, List.length_set]; omega) | (intros; simp only [decide_eq_true_eq, decide_eq_false_iff_not, Bool.not_eq_true', Bool.not_eq_false', beq_iff_eq, bne_iff_ne, beq_eq_false_iff_ne, bne_eq_false_iff_eq, ne_eq, gt_iff_lt, ge_iff_le, Int.not_lt, Int.not_le, Decidable.not_not, Int.toNat_natCast, Int.ofNat_lt, Int.ofNat_le, Nat.not_lt, Nat.not_le] at *; omega)) ?_
  refine W.cond rfl (fun hb0 => ?_) (fun hb0 => ?_)
  · try simp only [decide_eq_true_eq, decide_eq_false_iff_not, Bool.not_eq_true', Bool.not_eq_false', beq_iff_eq, bne_iff_ne, beq_eq_false_iff_ne, bne_eq_false_iff_eq, ne_eq, gt_iff_lt, ge_iff_le, Int.not_lt, Int.not_le, Decidable.not_not, Int.toNat_natCast, Int.ofNat_lt, Int.ofNat_le, Nat.not_lt, Nat.not_le] at hb0
    refine W.seq ?_
    refine W.reg X [] [] [4] [] rfl (by (repeat' (first | exact True.intro | apply And.intro)) <;> first | (intros; omega) | exact rfl | exact El_all _ (by decide) | exact (u8w _).1 | exact (u8w _).2 | exact (u8n _).1 | exact (u8n _).2 | (simp only [byt, maxLen, List.length_append, List.length_singleton, List.length_cons, List.length_nil, List.length_replicate, List.length_set]; omega) | (intros; simp only [decide_eq_true_eq, decide_eq_false_iff_not, Bool.not_eq_true', Bool.not_eq_false', beq_iff_eq, bne_iff_ne, beq_eq_false_iff_ne, bne_eq_false_iff_eq, ne_eq, gt_iff_lt, ge_iff_le, Int.not_lt, Int.not_le, Decidable.not_not, Int.toNat_natCast, Int.ofNat_lt, Int.ofNat_le, Nat.not_lt, Nat.not_le] at *; omega)) ?_
    refine W.ret ?_
    exact Fin.ret rfl ⟨by rw [szr_lt (by have := szr_neg (by omega) hb0; unfold size_Wld; omega)], ⟨⟩⟩
  · try simp only [decide_eq_true_eq, decide_eq_false_iff_not, Bool.not_eq_true', Bool.not_eq_false', beq_iff_eq, bne_iff_ne, beq_eq_false_iff_ne, bne_eq_false_iff_eq, ne_eq, gt_iff_lt, ge_iff_le, Int.not_lt, Int.not_le, Decidable.not_not, Int.toNat_natCast, Int.ofNat_lt, Int.ofNat_le, Nat.not_lt, Nat.not_le] at hb0
    obtain ⟨e0, e0'⟩ := szr_pos hb0
    rw [e0]
    refine W.skip ?_
    refine W.seq ?_
    refine W.reg X [] [(14, ⟨false, [.a (.lit (.int .i64 (szr (left - (((lsz size_Srv) x.servers) : Nat)) ((lsz size_Dev) x.devices))))]⟩)] [1, 2] [] rfl ⟨c_szDeviceS x.devices (left - (((lsz size_Srv) x.servers) : Nat)) (by omega) (by omega), ⟨⟩⟩ ?_
    refine W.seq ?_
    refine W.seq ?_
    refine W.reg X [] [] [1, 2, 16] [] rfl (by (repeat' (first | exact True.intro | apply And.intro)) <;> first | (intros; omega) | exact rfl | exact El_all _ (by decide) | exact (u8w _).1 | exact (u8w _).2 | exact (u8n _).1 | exact (u8n _).2 | (simp only [byt, maxLen, List.length_append, List.length_singleton, List.length_cons, List.length_nil, List.length_replicate, List.length_set]; omega) | (intros; simp only [decide_eq_true_eq, decide_eq_false_iff_not, Bool.not_eq_true', Bool.not_eq_false', beq_iff_eq, bne_iff_ne, beq_eq_false_iff_ne, bne_eq_false_iff_eq, ne_eq, gt_iff_lt, ge_iff_le, Int.not_lt, Int.not_le, Decidable.not_not, Int.toNat_natCast, Int.ofNat_lt, Int.ofNat_le, Nat.not_lt, Nat.not_le] at *; omega)) ?_
    refine W.cond rfl (fun hb1 => ?_) (fun hb1 => ?_)
    · try simp only [decide_eq_true_eq, decide_eq_false_iff_not, Bool.not_eq_true', Bool.not_eq_false', beq_iff_eq, bne_iff_ne, beq_eq_false_iff_ne, bne_eq_false_iff_eq, ne_eq, gt_iff_lt, ge_iff_le, Int.not_lt, Int.not_le, Decidable.not_not, Int.toNat_natCast, Int.ofNat_lt, Int.ofNat_le, Nat.not_lt, Nat.not_le] at hb1
      refine W.seq ?_
      refine W.reg X [] [] [4] [] rfl (by (repeat' (first | exact True.intro | apply And.intro)) <;> first | (intros; omega) | exact rfl | exact El_all _ (by decide) | exact (u8w _).1 | exact (u8w _).2 | exact (u8n _).1 | exact (u8n _).2 | (simp only [byt, maxLen, List.length_append, List.length_singleton, List.length_cons, List.length_nil, List.length_replicate, List.length_set]; omega) | (intros; simp only [decide_eq_true_eq, decide_eq_false_iff_not, Bool.not_eq_true', Bool.not_eq_false', beq_iff_eq, bne_iff_ne, beq_eq_false_iff_ne, bne_eq_false_iff_eq, ne_eq, gt_iff_lt, ge_iff_le, Int.not_lt, Int.not_le, Decidable.not_not, Int.toNat_natCast, Int.ofNat_lt, Int.ofNat_le, Nat.not_lt, Nat.not_le] at *; omega)) ?_
      refine W.ret ?_
      exact Fin.ret rfl ⟨by rw [szr_lt (by have := szr_neg (by omega) hb1; unfold size_Wld; omega)], ⟨⟩⟩
    · try simp only [decide_eq_true_eq, decide_eq_false_iff_not, Bool.not_eq_true', Bool.not_eq_false', beq_iff_eq, bne_iff_ne, beq_eq_false_iff_ne, bne_eq_false_iff_eq, ne_eq, gt_iff_lt, ge_iff_le, Int.not_lt, Int.not_le, Decidable.not_not, Int.toNat_natCast, Int.ofNat_lt, Int.ofNat_le, Nat.not_lt, Nat.not_le] at hb1
      obtain ⟨e1, e1'⟩ := szr_pos hb1
      rw [e1]
      refine W.skip ?_
      refine W.seq ?_
      refine W.reg X [] [(20, ⟨false, [.a (.lit (.int .i64 (szr (left - (((lsz size_Srv) x.servers) : Nat) - (((lsz size_Dev) x.devices) : Nat)) (size_Arc x.archive))))]⟩)] [1, 2] [] rfl ⟨c_szArchive x.archive (left - (((lsz size_Srv) x.servers) : Nat) - (((lsz size_Dev) x.devices) : Nat)) (by omega) (by omega), ⟨⟩⟩ ?_
      refine W.seq ?_
      refine W.seq ?_
      refine W.reg X [] [] [1, 2, 22] [] rfl (by (repeat' (first | exact True.intro | apply And.intro)) <;> first | (intros; omega) | exact rfl | exact El_all _ (by decide) | exact (u8w _).1 | exact (u8w _).2 | exact (u8n _).1 | exact (u8n _).2 | (simp only [byt, maxLen, List.length_append, List.length_singleton, List.length_cons, List.length_nil, List.length_replicate, List.length_set]; omega) | (intros; simp only [decide_eq_true_eq, decide_eq_false_iff_not, Bool.not_eq_true', Bool.not_eq_false', beq_iff_eq, bne_iff_ne, beq_eq_false_iff_ne, bne_eq_false_iff_eq, ne_eq, gt_iff_lt, ge_iff_le, Int.not_lt, Int.not_le, Decidable.not_not, Int.toNat_natCast, Int.ofNat_lt, Int.ofNat_le, Nat.not_lt, Nat.not_le] at *; omega)) ?_
      refine W.cond rfl (fun hb2 => ?_) (fun hb2 => ?_)
      · try simp only [decide_eq_true_eq, decide_eq_false_iff_not, Bool.not_eq_true', Bool.not_eq_false', beq_iff_eq, bne_iff_ne, beq_eq_false_iff_ne, bne_eq_false_iff_eq, ne_eq, gt_iff_lt, ge_iff_le, Int.not_lt, Int.not_le, Decidable.not_not, Int.toNat_natCast, Int.ofNat_lt, Int.ofNat_le, Nat.not_lt, Nat.not_le] at hb2
        refine W.seq ?_
        refine W.reg X [] [] [4] [] rfl (by (repeat' (first | exact True.intro | apply And.intro)) <;> first | (intros; omega) | exact rfl | exact El_all _ (by decide) | exact (u8w _).1 | exact (u8w _).2 | exact (u8n _).1 | exact (u8n _).2 | (simp only [byt, maxLen, List.length_append, List.length_singleton, List.length_cons, List.length_nil, List.length_replicate, List.length_set]; omega) | (intros; simp only [decide_eq_true_eq, decide_eq_false_iff_not, Bool.not_eq_true', Bool.not_eq_false', beq_iff_eq, bne_iff_ne, beq_eq_false_iff_ne, bne_eq_false_iff_eq, ne_eq, gt_iff_lt, ge_iff_le, Int.not_lt, Int.not_le, Decidable.not_not, Int.toNat_natCast, Int.ofNat_lt, Int.ofNat_le, Nat.not_lt, Nat.not_le] at *; omega)) ?_
        refine W.ret ?_
        exact Fin.ret rfl ⟨by rw [szr_lt (by have := szr_neg (by omega) hb2; unfold size_Wld; omega)], ⟨⟩⟩
      · try simp only [decide_eq_true_eq, decide_eq_false_iff_not, Bool.not_eq_true', Bool.not_eq_false', beq_iff_eq, bne_iff_ne, beq_eq_false_iff_ne, bne_eq_false_iff_eq, ne_eq, gt_iff_lt, ge_iff_le, Int.not_lt, Int.not_le, Decidable.not_not, Int.toNat_natCast, Int.ofNat_lt, Int.ofNat_le, Nat.not_lt, Nat.not_le] at hb2
        obtain ⟨e2, e2'⟩ := szr_pos hb2
        rw [e2]
        refine W.skip ?_
        refine W.seq ?_
        refine W.reg X [] [(26, ⟨false, [.a (.lit (.int .i64 (szr (left - (((lsz size_Srv) x.servers) : Nat) - (((lsz size_Dev) x.devices) : Nat) - ((size_Arc x.archive) : Nat)) (List.length x.replaced))))]⟩)] [1] [] rfl ⟨c_szIntS x.replaced (left - (((lsz size_Srv) x.servers) : Nat) - (((lsz size_Dev) x.devices) : Nat) - ((size_Arc x.archive) : Nat)) (by omega) (by omega), ⟨⟩⟩ ?_
        refine W.seq ?_
        refine W.seq ?_
        refine W.reg X [] [] [1, 28] [] rfl (by (repeat' (first | exact True.intro | apply And.intro)) <;> first | (intros; omega) | exact rfl | exact El_all _ (by decide) | exact (u8w _).1 | exact (u8w _).2 | exact (u8n _).1 | exact (u8n _).2 | (simp only [byt, maxLen, List.length_append, List.length_singleton, List.length_cons, List.length_nil, List.length_replicate, List.length_set]; omega) | (intros; simp only [decide_eq_true_eq, decide_eq_false_iff_not, Bool.not_eq_true', Bool.not_eq_false', beq_iff_eq, bne_iff_ne, beq_eq_false_iff_ne, bne_eq_false_iff_eq, ne_eq, gt_iff_lt, ge_iff_le, Int.not_lt, Int.not_le, Decidable.not_not, Int.toNat_natCast, Int.ofNat_lt, Int.ofNat_le, Nat.not_lt, Nat.not_le] at *; omega)) ?_
        refine W.cond rfl (fun hb3 => ?_) (fun hb3 => ?_)
        · try simp only [decide_eq_true_eq, decide_eq_false_iff_not, Bool.not_eq_true', Bool.not_eq_false', beq_iff_eq, bne_iff_ne, beq_eq_false_iff_ne, bne_eq_false_iff_eq, ne_eq, gt_iff_lt, ge_iff_le, Int.not_lt, Int.not_le, Decidable.not_not, Int.toNat_natCast, Int.ofNat_lt, Int.ofNat_le, Nat.not_lt, Nat.not_le] at hb3
          refine W.seq ?_
          refine W.reg X [] [] [4] [] rfl (by (repeat' (first | exact True.intro | apply And.intro)) <;> first | (intros; omega) | exact rfl | exact El_all _ (by decide) | exact (u8w _).1 | exact (u8w _).2 | exact (u8n _).1 | exact (u8n _).2 | (simp only [byt, maxLen, List.length_append, List.length_singleton, List.length_cons, List.length_nil, List.length_replicate, List.length_set]; omega) | (intros; simp only [decide_eq_true_eq, decide_eq_false_iff_not, Bool.not_eq_true', Bool.not_eq_false', beq_iff_eq, bne_iff_ne, beq_eq_false_iff_ne, bne_eq_false_iff_eq, ne_eq, gt_iff_lt, ge_iff_le, Int.not_lt, Int.not_le, Decidable.not_not, Int.toNat_natCast, Int.ofNat_lt, Int.ofNat_le, Nat.not_lt, Nat.not_le] at *; omega)) ?_
          refine W.ret ?_
          exact Fin.ret rfl ⟨by rw [szr_lt (by have := szr_neg (by omega) hb3; unfold size_Wld; omega)], ⟨⟩⟩
        · try simp only [decide_eq_true_eq, decide_eq_false_iff_not, Bool.not_eq_true', Bool.not_eq_false', beq_iff_eq, bne_iff_ne, beq_eq_false_iff_ne, bne_eq_false_iff_eq, ne_eq, gt_iff_lt, ge_iff_le, Int.not_lt, Int.not_le, Decidable.not_not, Int.toNat_natCast, Int.ofNat_lt, Int.ofNat_le, Nat.not_lt, Nat.not_le] at hb3
          obtain ⟨e3, e3'⟩ := szr_pos hb3
          rw [e3]
          refine W.skip ?_
          refine W.seq ?_
          refine W.reg X [] [] [4] [] rfl (by (repeat' (first | exact True.intro | apply And.intro)) <;> first | (intros; omega) | exact rfl | exact El_all _ (by decide) | exact (u8w _).1 | exact (u8w _).2 | exact (u8n _).1 | exact (u8n _).2 | (simp only [byt, maxLen, List.length_append, List.length_singleton, List.length_cons, List.length_nil, List.length_replicate, List.length_set]; omega) | (intros; simp only [decide_eq_true_eq, decide_eq_false_iff_not, Bool.not_eq_true', Bool.not_eq_false', beq_iff_eq, bne_iff_ne, beq_eq_false_iff_ne, bne_eq_false_iff_eq, ne_eq, gt_iff_lt, ge_iff_le, Int.not_lt, Int.not_le, Decidable.not_not, Int.toNat_natCast, Int.ofNat_lt, Int.ofNat_le, Nat.not_lt, Nat.not_le] at *; omega)) ?_
          refine W.ret ?_
          exact Fin.ret rfl ⟨by rw [szr_ge (by unfold size_Wld; omega)]; first | done | (congr 1; done) | (congr 1; unfold size_Wld; omega), ⟨⟩⟩
end Go.Proofs.Ytfiaikmlnemnfaa.G
