/-
  Contracts of the laws' own functions by the symbolic machine: mark.. of every type.
-/
import Derived.Test.YthlflnplnajjiaaH0
namespace Go.Proofs.Ythlflnplnajjiaa.G
set_option linter.all false
open Go.RowKit L D
set_option maxRecDepth 100000
theorem c_markByteS (l : (List UInt8)) (k0 : Int) (h0 : 0 ≤ k0) (h1 : k0 + ((mnl (fun _ => 1)) l : Nat) ≤ 1099511627776) : SoundM Try.prog 40 [.a (.sl .u8 l), .a (.lit (.int .i64 k0))] [.a (.sl .u8 ((mkl mku8 (fun _ => 1)) k0 l)), .a (.lit (.int .i64 k0))] (.int .i64 (k0 + ((mnl (fun _ => 1)) l : Nat))) := by
  refine SoundM.of X Try.call40 Try.func40 rfl rfl Try.ntmps40 (by simp) ?_
  intro zb
  refine W.boundO 1000 rfl fun hl => ?_
  refine W.seq ?_
  refine W.reg X [] [] [0, 1] [] rfl (by (repeat' (first | exact True.intro | apply And.intro)) <;> first | (intros; omega) | exact rfl | exact El_all _ (by decide) | exact (u8w _).1 | exact (u8w _).2 | exact (u8n _).1 | exact (u8n _).2 | (simp only [byt, maxLen, List.length_append, List.length_singleton, List.length_cons, List.length_nil, List.length_replicate, List.length_set]; omega) | (intros; simp only [decide_eq_true_eq, decide_eq_false_iff_not, Bool.not_eq_true', Bool.not_eq_false', beq_iff_eq, bne_iff_ne, beq_eq_false_iff_ne, bne_eq_false_iff_eq, ne_eq, gt_iff_lt, ge_iff_le, Int.not_lt, Int.not_le, Decidable.not_not, Int.toNat_natCast, Int.ofNat_lt, Int.ofNat_le, Nat.not_lt, Nat.not_le] at *; omega)) ?_
  refine W.seq ?_
  refine W.seq ?_
  refine W.reg X [] [] [0, 1, 5] [] rfl (by (repeat' (first | exact True.intro | apply And.intro)) <;> first | (intros; omega) | exact rfl | exact El_all _ (by decide) | exact (u8w _).1 | exact (u8w _).2 | exact (u8n _).1 | exact (u8n _).2 | (simp only [byt, maxLen, List.length_append, List.length_singleton, List.length_cons, List.length_nil, List.length_replicate, List.length_set]; omega) | (intros; simp only [decide_eq_true_eq, decide_eq_false_iff_not, Bool.not_eq_true', Bool.not_eq_false', beq_iff_eq, bne_iff_ne, beq_eq_false_iff_ne, bne_eq_false_iff_eq, ne_eq, gt_iff_lt, ge_iff_le, Int.not_lt, Int.not_le, Decidable.not_not, Int.toNat_natCast, Int.ofNat_lt, Int.ofNat_le, Nat.not_lt, Nat.not_le] at *; omega)) ?_
  refine W.block ?_
  refine W.loopO (fun k => k ≤ l.length) (fun k : Nat => [(1, .one (.a (.lit (.int .i64 (k0 + (mnl (fun _ => 1) (l.take k) : Nat)))))), (5, .one (.a (.lit (.int .i64 k))))]) (fun k => [(1000, .arr .u8 (mkl mku8 (fun _ => 1) k0 (l.take k) ++ l.drop k))]) (fun k => l.length - k) 0 (fun k => rfl) (Nat.zero_le _) (by simp [mkl, mnl]) ?_
  intro k hk
  refine W.seq ?_
  refine W.seq ?_
  refine W.reg X [] [] [0, 1, 5, 9] [] rfl (by (repeat' (first | exact True.intro | apply And.intro)) <;> first | (intros; omega) | exact rfl | exact El_all _ (by decide) | exact (u8w _).1 | exact (u8w _).2 | exact (u8n _).1 | exact (u8n _).2 | (simp only [byt, maxLen, List.length_append, List.length_singleton, List.length_cons, List.length_nil, List.length_replicate, List.length_set]; omega) | (intros; simp only [decide_eq_true_eq, decide_eq_false_iff_not, Bool.not_eq_true', Bool.not_eq_false', beq_iff_eq, bne_iff_ne, beq_eq_false_iff_ne, bne_eq_false_iff_eq, ne_eq, gt_iff_lt, ge_iff_le, Int.not_lt, Int.not_le, Decidable.not_not, Int.toNat_natCast, Int.ofNat_lt, Int.ofNat_le, Nat.not_lt, Nat.not_le] at *; omega)) ?_
  refine W.cond rfl (fun hb0 => ?_) (fun hb0 => ?_)
  · rw [mk_len l k0 k hk] at hb0
    try simp only [decide_eq_true_eq, decide_eq_false_iff_not, Bool.not_eq_true', Bool.not_eq_false', beq_iff_eq, bne_iff_ne, beq_eq_false_iff_ne, bne_eq_false_iff_eq, ne_eq, gt_iff_lt, ge_iff_le, Int.not_lt, Int.not_le, Decidable.not_not, Int.toNat_natCast, Int.ofNat_lt, Int.ofNat_le, Nat.not_lt, Nat.not_le] at hb0
    have hc := mk_cur (mk := mku8) (mn := (fun _ => 1)) l k0 (dfl .u8) k hb0
    have hlen := mk_len (mk := mku8) (mn := (fun _ => 1)) l k0 k (by omega)
    have hst := mk_step (mk := mku8) (mn := (fun _ => 1)) l k0 (dfl .u8) k hb0
    have hms := mnl_step (mn := (fun _ => 1)) l (dfl .u8) k hb0
    have hml := mnl_le (mn := (fun _ => 1)) l (k + 1)
    generalize mkl mku8 (fun _ => 1) k0 (l.take k) ++ l.drop k = L at hc hlen hst ⊢
    generalize l.getD k (dfl .u8) = e at hc hst hms
    have hL : k < L.length := by omega
    have gs : ∀ y : UInt8, (L.set k y).getD k (dfl .u8) = y := fun y => getD_set L _ y k hL
    have gl : ∀ y : UInt8, (L.set k y).length = L.length := fun y => List.length_set
    refine W.skip ?_
    refine W.seq ?_
    refine W.block ?_
    refine W.seq ?_
    refine W.reg X [] [] [0, 1, 5] [] rfl (by (repeat' (first | exact True.intro | apply And.intro)) <;> first | (intros; omega) | exact rfl | exact El_all _ (by decide) | exact (u8w _).1 | exact (u8w _).2 | exact (u8n _).1 | exact (u8n _).2 | (simp only [byt, maxLen, List.length_append, List.length_singleton, List.length_cons, List.length_nil, List.length_replicate, List.length_set]; omega) | (intros; simp only [decide_eq_true_eq, decide_eq_false_iff_not, Bool.not_eq_true', Bool.not_eq_false', beq_iff_eq, bne_iff_ne, beq_eq_false_iff_ne, bne_eq_false_iff_eq, ne_eq, gt_iff_lt, ge_iff_le, Int.not_lt, Int.not_le, Decidable.not_not, Int.toNat_natCast, Int.ofNat_lt, Int.ofNat_le, Nat.not_lt, Nat.not_le] at *; omega)) ?_
    simp only [Int.toNat_natCast, gs, hc, List.set_set]
    refine W.reg X [] [] [0, 1, 5] [] rfl (by (repeat' (first | exact True.intro | apply And.intro)) <;> first | (intros; omega) | exact rfl | exact El_all _ (by decide) | exact (u8w _).1 | exact (u8w _).2 | exact (u8n _).1 | exact (u8n _).2 | (simp only [byt, maxLen, List.length_append, List.length_singleton, List.length_cons, List.length_nil, List.length_replicate, List.length_set]; omega) | (intros; simp only [decide_eq_true_eq, decide_eq_false_iff_not, Bool.not_eq_true', Bool.not_eq_false', beq_iff_eq, bne_iff_ne, beq_eq_false_iff_ne, bne_eq_false_iff_eq, ne_eq, gt_iff_lt, ge_iff_le, Int.not_lt, Int.not_le, Decidable.not_not, Int.toNat_natCast, Int.ofNat_lt, Int.ofNat_le, Nat.not_lt, Nat.not_le] at *; omega)) ?_
    rw [IntWalk.i64_in ((k0 + (mnl (fun _ => 1) (l.take k) : Nat)) + 1) (by omega)]
    refine W.reg X [] [] [0, 1, 5] [] rfl (by (repeat' (first | exact True.intro | apply And.intro)) <;> first | (intros; omega) | exact rfl | exact El_all _ (by decide) | exact (u8w _).1 | exact (u8w _).2 | exact (u8n _).1 | exact (u8n _).2 | (simp only [byt, maxLen, List.length_append, List.length_singleton, List.length_cons, List.length_nil, List.length_replicate, List.length_set]; omega) | (intros; simp only [decide_eq_true_eq, decide_eq_false_iff_not, Bool.not_eq_true', Bool.not_eq_false', beq_iff_eq, bne_iff_ne, beq_eq_false_iff_ne, bne_eq_false_iff_eq, ne_eq, gt_iff_lt, ge_iff_le, Int.not_lt, Int.not_le, Decidable.not_not, Int.toNat_natCast, Int.ofNat_lt, Int.ofNat_le, Nat.not_lt, Nat.not_le] at *; omega)) ?_
    refine ⟨k + 1, by omega, by omega, ?_⟩
    rw [wadd _ k rfl (by omega), show (k0 + (mnl (fun _ => 1) (l.take k) : Nat)) + 1 = k0 + (mnl (fun _ => 1) (l.take (k + 1)) : Nat) by omega, ← hst]
    try rfl
  · rw [mk_len l k0 k hk] at hb0
    try simp only [decide_eq_true_eq, decide_eq_false_iff_not, Bool.not_eq_true', Bool.not_eq_false', beq_iff_eq, bne_iff_ne, beq_eq_false_iff_ne, bne_eq_false_iff_eq, ne_eq, gt_iff_lt, ge_iff_le, Int.not_lt, Int.not_le, Decidable.not_not, Int.toNat_natCast, Int.ofNat_lt, Int.ofNat_le, Nat.not_lt, Nat.not_le] at hb0
    refine W.exit ?_
    refine W.seq ?_
    refine W.reg X [] [] [4] [] rfl (by (repeat' (first | exact True.intro | apply And.intro)) <;> first | (intros; omega) | exact rfl | exact El_all _ (by decide) | exact (u8w _).1 | exact (u8w _).2 | exact (u8n _).1 | exact (u8n _).2 | (simp only [byt, maxLen, List.length_append, List.length_singleton, List.length_cons, List.length_nil, List.length_replicate, List.length_set]; omega) | (intros; simp only [decide_eq_true_eq, decide_eq_false_iff_not, Bool.not_eq_true', Bool.not_eq_false', beq_iff_eq, bne_iff_ne, beq_eq_false_iff_ne, bne_eq_false_iff_eq, ne_eq, gt_iff_lt, ge_iff_le, Int.not_lt, Int.not_le, Decidable.not_not, Int.toNat_natCast, Int.ofNat_lt, Int.ofNat_le, Nat.not_lt, Nat.not_le] at *; omega)) ?_
    refine W.ret ?_
    have hf : l.take k = l := List.take_of_length_le (by omega)
    have hd : l.drop k = [] := List.drop_eq_nil_of_le (by omega)
    exact FinM.ret rfl ⟨by rw [hf], by rw [hf, hd, List.append_nil], rfl, ⟨⟩⟩
theorem c_markByteSS (l : (List (List UInt8))) (k0 : Int) (h0 : 0 ≤ k0) (h1 : k0 + ((mnl (mnl (fun _ => 1))) l : Nat) ≤ 1099511627776) : SoundM Try.prog 30 [.a (.sl (.sl .u8) l), .a (.lit (.int .i64 k0))] [.a (.sl (.sl .u8) ((mkl (mkl mku8 (fun _ => 1)) (mnl (fun _ => 1))) k0 l)), .a (.lit (.int .i64 k0))] (.int .i64 (k0 + ((mnl (mnl (fun _ => 1))) l : Nat))) := by
  refine SoundM.of X Try.call30 Try.func30 rfl rfl Try.ntmps30 (by simp) ?_
  intro zb
  refine W.boundO 1000 rfl fun hl => ?_
  refine W.seq ?_
  refine W.reg X [] [] [0, 1] [] rfl (by (repeat' (first | exact True.intro | apply And.intro)) <;> first | (intros; omega) | exact rfl | exact El_all _ (by decide) | exact (u8w _).1 | exact (u8w _).2 | exact (u8n _).1 | exact (u8n _).2 | (simp only [byt, maxLen, List.length_append, List.length_singleton, List.length_cons, List.length_nil, List.length_replicate, List.length_set]; omega) | (intros; simp only [decide_eq_true_eq, decide_eq_false_iff_not, Bool.not_eq_true', Bool.not_eq_false', beq_iff_eq, bne_iff_ne, beq_eq_false_iff_ne, bne_eq_false_iff_eq, ne_eq, gt_iff_lt, ge_iff_le, Int.not_lt, Int.not_le, Decidable.not_not, Int.toNat_natCast, Int.ofNat_lt, Int.ofNat_le, Nat.not_lt, Nat.not_le] at *; omega)) ?_
  refine W.seq ?_
  refine W.seq ?_
  refine W.reg X [] [] [0, 1, 5] [] rfl (by (repeat' (first | exact True.intro | apply And.intro)) <;> first | (intros; omega) | exact rfl | exact El_all _ (by decide) | exact (u8w _).1 | exact (u8w _).2 | exact (u8n _).1 | exact (u8n _).2 | (simp only [byt, maxLen, List.length_append, List.length_singleton, List.length_cons, List.length_nil, List.length_replicate, List.length_set]; omega) | (intros; simp only [decide_eq_true_eq, decide_eq_false_iff_not, Bool.not_eq_true', Bool.not_eq_false', beq_iff_eq, bne_iff_ne, beq_eq_false_iff_ne, bne_eq_false_iff_eq, ne_eq, gt_iff_lt, ge_iff_le, Int.not_lt, Int.not_le, Decidable.not_not, Int.toNat_natCast, Int.ofNat_lt, Int.ofNat_le, Nat.not_lt, Nat.not_le] at *; omega)) ?_
  refine W.block ?_
  refine W.loopO (fun k => k ≤ l.length) (fun k : Nat => [(1, .one (.a (.lit (.int .i64 (k0 + (mnl (mnl (fun _ => 1)) (l.take k) : Nat)))))), (5, .one (.a (.lit (.int .i64 k))))]) (fun k => [(1000, .arr (.sl .u8) (mkl (mkl mku8 (fun _ => 1)) (mnl (fun _ => 1)) k0 (l.take k) ++ l.drop k))]) (fun k => l.length - k) 0 (fun k => rfl) (Nat.zero_le _) (by simp [mkl, mnl]) ?_
  intro k hk
  refine W.seq ?_
  refine W.seq ?_
  refine W.reg X [] [] [0, 1, 5, 9] [] rfl (by (repeat' (first | exact True.intro | apply And.intro)) <;> first | (intros; omega) | exact rfl | exact El_all _ (by decide) | exact (u8w _).1 | exact (u8w _).2 | exact (u8n _).1 | exact (u8n _).2 | (simp only [byt, maxLen, List.length_append, List.length_singleton, List.length_cons, List.length_nil, List.length_replicate, List.length_set]; omega) | (intros; simp only [decide_eq_true_eq, decide_eq_false_iff_not, Bool.not_eq_true', Bool.not_eq_false', beq_iff_eq, bne_iff_ne, beq_eq_false_iff_ne, bne_eq_false_iff_eq, ne_eq, gt_iff_lt, ge_iff_le, Int.not_lt, Int.not_le, Decidable.not_not, Int.toNat_natCast, Int.ofNat_lt, Int.ofNat_le, Nat.not_lt, Nat.not_le] at *; omega)) ?_
  refine W.cond rfl (fun hb0 => ?_) (fun hb0 => ?_)
  · rw [mk_len l k0 k hk] at hb0
    try simp only [decide_eq_true_eq, decide_eq_false_iff_not, Bool.not_eq_true', Bool.not_eq_false', beq_iff_eq, bne_iff_ne, beq_eq_false_iff_ne, bne_eq_false_iff_eq, ne_eq, gt_iff_lt, ge_iff_le, Int.not_lt, Int.not_le, Decidable.not_not, Int.toNat_natCast, Int.ofNat_lt, Int.ofNat_le, Nat.not_lt, Nat.not_le] at hb0
    have hc := mk_cur (mk := (mkl mku8 (fun _ => 1))) (mn := (mnl (fun _ => 1))) l k0 (dfl (.sl .u8)) k hb0
    have hlen := mk_len (mk := (mkl mku8 (fun _ => 1))) (mn := (mnl (fun _ => 1))) l k0 k (by omega)
    have hst := mk_step (mk := (mkl mku8 (fun _ => 1))) (mn := (mnl (fun _ => 1))) l k0 (dfl (.sl .u8)) k hb0
    have hms := mnl_step (mn := (mnl (fun _ => 1))) l (dfl (.sl .u8)) k hb0
    have hml := mnl_le (mn := (mnl (fun _ => 1))) l (k + 1)
    generalize mkl (mkl mku8 (fun _ => 1)) (mnl (fun _ => 1)) k0 (l.take k) ++ l.drop k = L at hc hlen hst ⊢
    generalize l.getD k (dfl (.sl .u8)) = e at hc hst hms
    have hL : k < L.length := by omega
    have gs : ∀ y : (List UInt8), (L.set k y).getD k (dfl (.sl .u8)) = y := fun y => getD_set L _ y k hL
    have gl : ∀ y : (List UInt8), (L.set k y).length = L.length := fun y => List.length_set
    refine W.skip ?_
    refine W.seq ?_
    refine W.block ?_
    refine W.reg X [] [(200017, ⟨false, [.a (.lit (.int .i64 ((k0 + (mnl (mnl (fun _ => 1)) (l.take k) : Nat)) + ((mnl (fun _ => 1)) e : Nat)))), .a (.sl .u8 ((mkl mku8 (fun _ => 1)) ((k0 + (mnl (mnl (fun _ => 1)) (l.take k) : Nat))) e)), .a (.lit (.int .i64 ((k0 + (mnl (mnl (fun _ => 1)) (l.take k) : Nat)))))]⟩)] [0, 1, 5] [] rfl (by (repeat' (first | exact True.intro | exact c_markByteS e ((k0 + (mnl (mnl (fun _ => 1)) (l.take k) : Nat))) (by omega) (by omega) | (simp only [Int.toNat_natCast, gs, hc]; exact c_markByteS e ((k0 + (mnl (mnl (fun _ => 1)) (l.take k) : Nat))) (by omega) (by omega)) | apply And.intro)) <;> first | (intros; omega) | exact rfl | exact El_all _ (by decide) | exact (u8w _).1 | exact (u8w _).2 | exact (u8n _).1 | exact (u8n _).2 | (simp only [byt, maxLen, List.length_append, List.length_singleton, List.length_cons, List.length_nil, List.length_replicate, List.length_set]; omega) | (intros; simp only [decide_eq_true_eq, decide_eq_false_iff_not, Bool.not_eq_true', Bool.not_eq_false', beq_iff_eq, bne_iff_ne, beq_eq_false_iff_ne, bne_eq_false_iff_eq, ne_eq, gt_iff_lt, ge_iff_le, Int.not_lt, Int.not_le, Decidable.not_not, Int.toNat_natCast, Int.ofNat_lt, Int.ofNat_le, Nat.not_lt, Nat.not_le] at *; omega)) ?_
    simp only [Int.toNat_natCast, gs, hc, List.set_set]
    refine W.reg X [] [] [0, 1, 5] [] rfl (by (repeat' (first | exact True.intro | apply And.intro)) <;> first | (intros; omega) | exact rfl | exact El_all _ (by decide) | exact (u8w _).1 | exact (u8w _).2 | exact (u8n _).1 | exact (u8n _).2 | (simp only [byt, maxLen, List.length_append, List.length_singleton, List.length_cons, List.length_nil, List.length_replicate, List.length_set]; omega) | (intros; simp only [decide_eq_true_eq, decide_eq_false_iff_not, Bool.not_eq_true', Bool.not_eq_false', beq_iff_eq, bne_iff_ne, beq_eq_false_iff_ne, bne_eq_false_iff_eq, ne_eq, gt_iff_lt, ge_iff_le, Int.not_lt, Int.not_le, Decidable.not_not, Int.toNat_natCast, Int.ofNat_lt, Int.ofNat_le, Nat.not_lt, Nat.not_le] at *; omega)) ?_
    refine ⟨k + 1, by omega, by omega, ?_⟩
    rw [wadd _ k rfl (by omega), show (k0 + (mnl (mnl (fun _ => 1)) (l.take k) : Nat)) + ((mnl (fun _ => 1)) e : Nat) = k0 + (mnl (mnl (fun _ => 1)) (l.take (k + 1)) : Nat) by omega, ← hst]
    try rfl
  · rw [mk_len l k0 k hk] at hb0
    try simp only [decide_eq_true_eq, decide_eq_false_iff_not, Bool.not_eq_true', Bool.not_eq_false', beq_iff_eq, bne_iff_ne, beq_eq_false_iff_ne, bne_eq_false_iff_eq, ne_eq, gt_iff_lt, ge_iff_le, Int.not_lt, Int.not_le, Decidable.not_not, Int.toNat_natCast, Int.ofNat_lt, Int.ofNat_le, Nat.not_lt, Nat.not_le] at hb0
    refine W.exit ?_
    refine W.seq ?_
    refine W.reg X [] [] [4] [] rfl (by (repeat' (first | exact True.intro | apply And.intro)) <;> first | (intros; omega) | exact rfl | exact El_all _ (by decide) | exact (u8w _).1 | exact (u8w _).2 | exact (u8n _).1 | exact (u8n _).2 | (simp only [byt, maxLen, List.length_append, List.length_singleton, List.length_cons, List.length_nil, List.length_replicate, List.length_set]; omega) | (intros; simp only [decide_eq_true_eq, decide_eq_false_iff_not, Bool.not_eq_true', Bool.not_eq_false', beq_iff_eq, bne_iff_ne, beq_eq_false_iff_ne, bne_eq_false_iff_eq, ne_eq, gt_iff_lt, ge_iff_le, Int.not_lt, Int.not_le, Decidable.not_not, Int.toNat_natCast, Int.ofNat_lt, Int.ofNat_le, Nat.not_lt, Nat.not_le] at *; omega)) ?_
    refine W.ret ?_
    have hf : l.take k = l := List.take_of_length_le (by omega)
    have hd : l.drop k = [] := List.drop_eq_nil_of_le (by omega)
    exact FinM.ret rfl ⟨by rw [hf], by rw [hf, hd, List.append_nil], rfl, ⟨⟩⟩
theorem c_markEventS (l : (List Ev)) (k0 : Int) (h0 : 0 ≤ k0) (h1 : k0 + ((mnl mne_Ev) l : Nat) ≤ 1099511627776) : SoundM Try.prog 29 [.a (.sl .Ev l), .a (.lit (.int .i64 k0))] [.a (.sl .Ev ((mkl mke_Ev mne_Ev) k0 l)), .a (.lit (.int .i64 k0))] (.int .i64 (k0 + ((mnl mne_Ev) l : Nat))) := by
  refine SoundM.of X Try.call29 Try.func29 rfl rfl Try.ntmps29 (by simp) ?_
  intro zb
  refine W.boundO 1000 rfl fun hl => ?_
  refine W.seq ?_
  refine W.reg X [] [] [0, 1] [] rfl (by (repeat' (first | exact True.intro | apply And.intro)) <;> first | (intros; omega) | exact rfl | exact El_all _ (by decide) | exact (u8w _).1 | exact (u8w _).2 | exact (u8n _).1 | exact (u8n _).2 | (simp only [byt, maxLen, List.length_append, List.length_singleton, List.length_cons, List.length_nil, List.length_replicate, List.length_set]; omega) | (intros; simp only [decide_eq_true_eq, decide_eq_false_iff_not, Bool.not_eq_true', Bool.not_eq_false', beq_iff_eq, bne_iff_ne, beq_eq_false_iff_ne, bne_eq_false_iff_eq, ne_eq, gt_iff_lt, ge_iff_le, Int.not_lt, Int.not_le, Decidable.not_not, Int.toNat_natCast, Int.ofNat_lt, Int.ofNat_le, Nat.not_lt, Nat.not_le] at *; omega)) ?_
  refine W.seq ?_
  refine W.seq ?_
  refine W.reg X [] [] [0, 1, 5] [] rfl (by (repeat' (first | exact True.intro | apply And.intro)) <;> first | (intros; omega) | exact rfl | exact El_all _ (by decide) | exact (u8w _).1 | exact (u8w _).2 | exact (u8n _).1 | exact (u8n _).2 | (simp only [byt, maxLen, List.length_append, List.length_singleton, List.length_cons, List.length_nil, List.length_replicate, List.length_set]; omega) | (intros; simp only [decide_eq_true_eq, decide_eq_false_iff_not, Bool.not_eq_true', Bool.not_eq_false', beq_iff_eq, bne_iff_ne, beq_eq_false_iff_ne, bne_eq_false_iff_eq, ne_eq, gt_iff_lt, ge_iff_le, Int.not_lt, Int.not_le, Decidable.not_not, Int.toNat_natCast, Int.ofNat_lt, Int.ofNat_le, Nat.not_lt, Nat.not_le] at *; omega)) ?_
  refine W.block ?_
  refine W.loopO (fun k => k ≤ l.length) (fun k : Nat => [(1, .one (.a (.lit (.int .i64 (k0 + (mnl mne_Ev (l.take k) : Nat)))))), (5, .one (.a (.lit (.int .i64 k))))]) (fun k => [(1000, .arr .Ev (mkl mke_Ev mne_Ev k0 (l.take k) ++ l.drop k))]) (fun k => l.length - k) 0 (fun k => rfl) (Nat.zero_le _) (by simp [mkl, mnl]) ?_
  intro k hk
  refine W.seq ?_
  refine W.seq ?_
  refine W.reg X [] [] [0, 1, 5, 9] [] rfl (by (repeat' (first | exact True.intro | apply And.intro)) <;> first | (intros; omega) | exact rfl | exact El_all _ (by decide) | exact (u8w _).1 | exact (u8w _).2 | exact (u8n _).1 | exact (u8n _).2 | (simp only [byt, maxLen, List.length_append, List.length_singleton, List.length_cons, List.length_nil, List.length_replicate, List.length_set]; omega) | (intros; simp only [decide_eq_true_eq, decide_eq_false_iff_not, Bool.not_eq_true', Bool.not_eq_false', beq_iff_eq, bne_iff_ne, beq_eq_false_iff_ne, bne_eq_false_iff_eq, ne_eq, gt_iff_lt, ge_iff_le, Int.not_lt, Int.not_le, Decidable.not_not, Int.toNat_natCast, Int.ofNat_lt, Int.ofNat_le, Nat.not_lt, Nat.not_le] at *; omega)) ?_
  refine W.cond rfl (fun hb0 => ?_) (fun hb0 => ?_)
  · rw [mk_len l k0 k hk] at hb0
    try simp only [decide_eq_true_eq, decide_eq_false_iff_not, Bool.not_eq_true', Bool.not_eq_false', beq_iff_eq, bne_iff_ne, beq_eq_false_iff_ne, bne_eq_false_iff_eq, ne_eq, gt_iff_lt, ge_iff_le, Int.not_lt, Int.not_le, Decidable.not_not, Int.toNat_natCast, Int.ofNat_lt, Int.ofNat_le, Nat.not_lt, Nat.not_le] at hb0
    have hc := mk_cur (mk := mke_Ev) (mn := mne_Ev) l k0 (dfl .Ev) k hb0
    have hlen := mk_len (mk := mke_Ev) (mn := mne_Ev) l k0 k (by omega)
    have hst := mk_step (mk := mke_Ev) (mn := mne_Ev) l k0 (dfl .Ev) k hb0
    have hms := mnl_step (mn := mne_Ev) l (dfl .Ev) k hb0
    have hml := mnl_le (mn := mne_Ev) l (k + 1)
    generalize mkl mke_Ev mne_Ev k0 (l.take k) ++ l.drop k = L at hc hlen hst ⊢
    generalize l.getD k (dfl .Ev) = e at hc hst hms
    have hL : k < L.length := by omega
    have gs : ∀ y : Ev, (L.set k y).getD k (dfl .Ev) = y := fun y => getD_set L _ y k hL
    have gl : ∀ y : Ev, (L.set k y).length = L.length := fun y => List.length_set
    simp only [mne_Ev] at hms
    refine W.skip ?_
    refine W.seq ?_
    refine W.block ?_
    refine W.seq ?_
    refine W.reg X [] [] [0, 1, 5] [] rfl (by (repeat' (first | exact True.intro | apply And.intro)) <;> first | (intros; omega) | exact rfl | exact El_all _ (by decide) | exact (u8w _).1 | exact (u8w _).2 | exact (u8n _).1 | exact (u8n _).2 | (simp only [byt, maxLen, List.length_append, List.length_singleton, List.length_cons, List.length_nil, List.length_replicate, List.length_set]; omega) | (intros; simp only [decide_eq_true_eq, decide_eq_false_iff_not, Bool.not_eq_true', Bool.not_eq_false', beq_iff_eq, bne_iff_ne, beq_eq_false_iff_ne, bne_eq_false_iff_eq, ne_eq, gt_iff_lt, ge_iff_le, Int.not_lt, Int.not_le, Decidable.not_not, Int.toNat_natCast, Int.ofNat_lt, Int.ofNat_le, Nat.not_lt, Nat.not_le] at *; omega)) ?_
    simp only [Int.toNat_natCast, gs, hc, List.set_set]
    refine W.seq ?_
    refine W.reg X [] [] [0, 1, 5] [] rfl (by (repeat' (first | exact True.intro | apply And.intro)) <;> first | (intros; omega) | exact rfl | exact El_all _ (by decide) | exact (u8w _).1 | exact (u8w _).2 | exact (u8n _).1 | exact (u8n _).2 | (simp only [byt, maxLen, List.length_append, List.length_singleton, List.length_cons, List.length_nil, List.length_replicate, List.length_set]; omega) | (intros; simp only [decide_eq_true_eq, decide_eq_false_iff_not, Bool.not_eq_true', Bool.not_eq_false', beq_iff_eq, bne_iff_ne, beq_eq_false_iff_ne, bne_eq_false_iff_eq, ne_eq, gt_iff_lt, ge_iff_le, Int.not_lt, Int.not_le, Decidable.not_not, Int.toNat_natCast, Int.ofNat_lt, Int.ofNat_le, Nat.not_lt, Nat.not_le] at *; omega)) ?_
    rw [IntWalk.i64_in ((k0 + (mnl mne_Ev (l.take k) : Nat)) + 1) (by omega)]
    refine W.seq ?_
    refine W.reg X [] [] [0, 1, 5] [] rfl (by (repeat' (first | exact True.intro | apply And.intro)) <;> first | (intros; omega) | exact rfl | exact El_all _ (by decide) | exact (u8w _).1 | exact (u8w _).2 | exact (u8n _).1 | exact (u8n _).2 | (simp only [byt, maxLen, List.length_append, List.length_singleton, List.length_cons, List.length_nil, List.length_replicate, List.length_set]; omega) | (intros; simp only [decide_eq_true_eq, decide_eq_false_iff_not, Bool.not_eq_true', Bool.not_eq_false', beq_iff_eq, bne_iff_ne, beq_eq_false_iff_ne, bne_eq_false_iff_eq, ne_eq, gt_iff_lt, ge_iff_le, Int.not_lt, Int.not_le, Decidable.not_not, Int.toNat_natCast, Int.ofNat_lt, Int.ofNat_le, Nat.not_lt, Nat.not_le] at *; omega)) ?_
    simp only [Int.toNat_natCast, gs, hc, List.set_set]
    refine W.seq ?_
    refine W.reg X [] [] [0, 1, 5] [] rfl (by (repeat' (first | exact True.intro | apply And.intro)) <;> first | (intros; omega) | exact rfl | exact El_all _ (by decide) | exact (u8w _).1 | exact (u8w _).2 | exact (u8n _).1 | exact (u8n _).2 | (simp only [byt, maxLen, List.length_append, List.length_singleton, List.length_cons, List.length_nil, List.length_replicate, List.length_set]; omega) | (intros; simp only [decide_eq_true_eq, decide_eq_false_iff_not, Bool.not_eq_true', Bool.not_eq_false', beq_iff_eq, bne_iff_ne, beq_eq_false_iff_ne, bne_eq_false_iff_eq, ne_eq, gt_iff_lt, ge_iff_le, Int.not_lt, Int.not_le, Decidable.not_not, Int.toNat_natCast, Int.ofNat_lt, Int.ofNat_le, Nat.not_lt, Nat.not_le] at *; omega)) ?_
    rw [IntWalk.i64_in ((k0 + (mnl mne_Ev (l.take k) : Nat)) + 1 + 1) (by omega)]
    refine W.seq ?_
    refine W.reg X [] [] [0, 1, 5] [] rfl (by (repeat' (first | exact True.intro | apply And.intro)) <;> first | (intros; omega) | exact rfl | exact El_all _ (by decide) | exact (u8w _).1 | exact (u8w _).2 | exact (u8n _).1 | exact (u8n _).2 | (simp only [byt, maxLen, List.length_append, List.length_singleton, List.length_cons, List.length_nil, List.length_replicate, List.length_set]; omega) | (intros; simp only [decide_eq_true_eq, decide_eq_false_iff_not, Bool.not_eq_true', Bool.not_eq_false', beq_iff_eq, bne_iff_ne, beq_eq_false_iff_ne, bne_eq_false_iff_eq, ne_eq, gt_iff_lt, ge_iff_le, Int.not_lt, Int.not_le, Decidable.not_not, Int.toNat_natCast, Int.ofNat_lt, Int.ofNat_le, Nat.not_lt, Nat.not_le] at *; omega)) ?_
    simp only [Int.toNat_natCast, gs, hc, List.set_set]
    refine W.seq ?_
    refine W.reg X [] [] [0, 1, 5] [] rfl (by (repeat' (first | exact True.intro | apply And.intro)) <;> first | (intros; omega) | exact rfl | exact El_all _ (by decide) | exact (u8w _).1 | exact (u8w _).2 | exact (u8n _).1 | exact (u8n _).2 | (simp only [byt, maxLen, List.length_append, List.length_singleton, List.length_cons, List.length_nil, List.length_replicate, List.length_set]; omega) | (intros; simp only [decide_eq_true_eq, decide_eq_false_iff_not, Bool.not_eq_true', Bool.not_eq_false', beq_iff_eq, bne_iff_ne, beq_eq_false_iff_ne, bne_eq_false_iff_eq, ne_eq, gt_iff_lt, ge_iff_le, Int.not_lt, Int.not_le, Decidable.not_not, Int.toNat_natCast, Int.ofNat_lt, Int.ofNat_le, Nat.not_lt, Nat.not_le] at *; omega)) ?_
    rw [IntWalk.i64_in ((k0 + (mnl mne_Ev (l.take k) : Nat)) + 1 + 1 + 1) (by omega)]
    refine W.reg X [] [(200039, ⟨false, [.a (.lit (.int .i64 ((k0 + (mnl mne_Ev (l.take k) : Nat)) + 1 + 1 + 1 + ((mnl (fun _ => 1)) e.body : Nat)))), .a (.sl .u8 ((mkl mku8 (fun _ => 1)) ((k0 + (mnl mne_Ev (l.take k) : Nat)) + 1 + 1 + 1) e.body)), .a (.lit (.int .i64 ((k0 + (mnl mne_Ev (l.take k) : Nat)) + 1 + 1 + 1)))]⟩)] [0, 1, 5] [] rfl (by (repeat' (first | exact True.intro | exact c_markByteS e.body ((k0 + (mnl mne_Ev (l.take k) : Nat)) + 1 + 1 + 1) (by omega) (by omega) | (simp only [Int.toNat_natCast, gs, hc]; exact c_markByteS e.body ((k0 + (mnl mne_Ev (l.take k) : Nat)) + 1 + 1 + 1) (by omega) (by omega)) | apply And.intro)) <;> first | (intros; omega) | exact rfl | exact El_all _ (by decide) | exact (u8w _).1 | exact (u8w _).2 | exact (u8n _).1 | exact (u8n _).2 | (simp only [byt, maxLen, List.length_append, List.length_singleton, List.length_cons, List.length_nil, List.length_replicate, List.length_set]; omega) | (intros; simp only [decide_eq_true_eq, decide_eq_false_iff_not, Bool.not_eq_true', Bool.not_eq_false', beq_iff_eq, bne_iff_ne, beq_eq_false_iff_ne, bne_eq_false_iff_eq, ne_eq, gt_iff_lt, ge_iff_le, Int.not_lt, Int.not_le, Decidable.not_not, Int.toNat_natCast, Int.ofNat_lt, Int.ofNat_le, Nat.not_lt, Nat.not_le] at *; omega)) ?_
    simp only [Int.toNat_natCast, gs, hc, List.set_set]
    refine W.reg X [] [] [0, 1, 5] [] rfl (by (repeat' (first | exact True.intro | apply And.intro)) <;> first | (intros; omega) | exact rfl | exact El_all _ (by decide) | exact (u8w _).1 | exact (u8w _).2 | exact (u8n _).1 | exact (u8n _).2 | (simp only [byt, maxLen, List.length_append, List.length_singleton, List.length_cons, List.length_nil, List.length_replicate, List.length_set]; omega) | (intros; simp only [decide_eq_true_eq, decide_eq_false_iff_not, Bool.not_eq_true', Bool.not_eq_false', beq_iff_eq, bne_iff_ne, beq_eq_false_iff_ne, bne_eq_false_iff_eq, ne_eq, gt_iff_lt, ge_iff_le, Int.not_lt, Int.not_le, Decidable.not_not, Int.toNat_natCast, Int.ofNat_lt, Int.ofNat_le, Nat.not_lt, Nat.not_le] at *; omega)) ?_
    refine ⟨k + 1, by omega, by omega, ?_⟩
    rw [wadd _ k rfl (by omega), show (k0 + (mnl mne_Ev (l.take k) : Nat)) + 1 + 1 + 1 + ((mnl (fun _ => 1)) e.body : Nat) = k0 + (mnl mne_Ev (l.take (k + 1)) : Nat) by omega, ← hst]
    try rfl
  · rw [mk_len l k0 k hk] at hb0
    try simp only [decide_eq_true_eq, decide_eq_false_iff_not, Bool.not_eq_true', Bool.not_eq_false', beq_iff_eq, bne_iff_ne, beq_eq_false_iff_ne, bne_eq_false_iff_eq, ne_eq, gt_iff_lt, ge_iff_le, Int.not_lt, Int.not_le, Decidable.not_not, Int.toNat_natCast, Int.ofNat_lt, Int.ofNat_le, Nat.not_lt, Nat.not_le] at hb0
    refine W.exit ?_
    refine W.seq ?_
    refine W.reg X [] [] [4] [] rfl (by (repeat' (first | exact True.intro | apply And.intro)) <;> first | (intros; omega) | exact rfl | exact El_all _ (by decide) | exact (u8w _).1 | exact (u8w _).2 | exact (u8n _).1 | exact (u8n _).2 | (simp only [byt, maxLen, List.length_append, List.length_singleton, List.length_cons, List.length_nil, List.length_replicate, List.length_set]; omega) | (intros; simp only [decide_eq_true_eq, decide_eq_false_iff_not, Bool.not_eq_true', Bool.not_eq_false', beq_iff_eq, bne_iff_ne, beq_eq_false_iff_ne, bne_eq_false_iff_eq, ne_eq, gt_iff_lt, ge_iff_le, Int.not_lt, Int.not_le, Decidable.not_not, Int.toNat_natCast, Int.ofNat_lt, Int.ofNat_le, Nat.not_lt, Nat.not_le] at *; omega)) ?_
    refine W.ret ?_
    have hf : l.take k = l := List.take_of_length_le (by omega)
    have hd : l.drop k = [] := List.drop_eq_nil_of_le (by omega)
    exact FinM.ret rfl ⟨by rw [hf], by rw [hf, hd, List.append_nil], rfl, ⟨⟩⟩
end Go.Proofs.Ythlflnplnajjiaa.G
