/-
  FnExactLinkableRows, walked by the symbolic machine: it returns true.
-/
import Derived.Test.YtlocnjfgeifmnaaZLinkableRowsM9
import Derived.Test.YtlocnjfgeifmnaaZLinkableRowsM10
import Derived.Test.YtlocnjfgeifmnaaZLinkableRowsM8
namespace Go.Proofs.Ytlocnjfgeifmnaa.G
set_option linter.all false
open Go.RowKit L D
set_option maxRecDepth 100000
theorem c_impl_IsValidKey (k : Int) : Sound ty Try.prog 76 [.a (.lit (.int .i64 k))] [.a (.lit (.bool (okKey k)))] := by
  refine Sound.of X Try.call76 Try.func76 rfl rfl (by decide) Try.ntmps76 (by simp) ?_
  intro zb
  refine W.seq ?_
  refine W.reg X [] [] [0] [] rfl ⟨⟩ ?_
  refine W.seq ?_
  refine W.reg X [] [(4, ⟨false, [.a (.lit (.bool _))]⟩)] [2] [] rfl (by (repeat' (first | with_reducible exact AllP.nil | with_reducible refine AllP.mk ?_ ?_ | with_reducible apply And.intro)) <;> skip; (iterate 1 (all_goals try (first | exact (c_impl_InRange _ _ _) | exact fun _ => (c_impl_InRange _ _ _) | exact fun _ _ => (c_impl_InRange _ _ _)))); all_goals (first | (intros; omega) | exact rfl | exact El_all _ (by decide) | exact ⟨rfl, El_all _ (by decide)⟩ | ((intro h1; first | (intro h2; first | (intro h3; refine And.intro ?_ ?_) | refine And.intro ?_ ?_) | refine And.intro ?_ ?_) <;> first | omega | ((try simp only [nb, inr_t, inr_f] at *); (try simp (disch := omega) only [i64w]); omega)) | ((try simp only [nb, inr_t, inr_f] at *); (simp (disch := omega) only [i64w]); omega) | (refine fun _ => ?_; dsimp only [hyps, imps]; omega) | (refine fun _ _ => ?_; dsimp only [hyps, imps]; omega) | exact (u8w _).1 | exact (u8w _).2 | exact (u8n _).1 | exact (u8n _).2 | (simp only [byt, maxLen, lens]; omega) | (intros; simp only [nb] at *; omega))) ?_
  refine W.ret ?_
  exact Fin.ret rfl ⟨rfl, ⟨⟩⟩
theorem c_impl_MailboxRow (key r d n : Int) : Sound ty Try.prog 46 [.a (.lit (.int .i64 key)), .a (.lit (.int .i64 r)), .a (.lit (.int .i64 d)), .a (.lit (.int .i64 n))] [.a (.lit (.int .i64 (mrow key r d n)))] := by
  refine Sound.of X Try.call46 Try.func46 rfl rfl (by decide) Try.ntmps46 (by simp) ?_
  intro zb
  refine W.seq ?_
  refine W.reg X [] [] [0, 1, 2, 3] [] rfl ⟨⟩ ?_
  refine W.seq ?_
  refine W.seq ?_
  refine W.reg X [] [(10, ⟨false, [.a (.lit (.bool _))]⟩), (14, ⟨false, [.a (.lit (.bool _))]⟩)] [0, 1, 2, 3, 16] [] rfl (by (repeat' (first | with_reducible exact AllP.nil | with_reducible refine AllP.mk ?_ ?_ | with_reducible apply And.intro)) <;> skip; (iterate 1 (all_goals try (first | exact (c_impl_InRange _ _ _) | exact fun _ => (c_impl_InRange _ _ _) | exact fun _ _ => (c_impl_InRange _ _ _)))); all_goals (first | (intros; omega) | exact rfl | exact El_all _ (by decide) | exact ⟨rfl, El_all _ (by decide)⟩ | ((intro h1; first | (intro h2; first | (intro h3; refine And.intro ?_ ?_) | refine And.intro ?_ ?_) | refine And.intro ?_ ?_) <;> first | omega | ((try simp only [nb, inr_t, inr_f] at *); (try simp (disch := omega) only [i64w]); omega)) | ((try simp only [nb, inr_t, inr_f] at *); (simp (disch := omega) only [i64w]); omega) | (refine fun _ => ?_; dsimp only [hyps, imps]; omega) | (refine fun _ _ => ?_; dsimp only [hyps, imps]; omega) | exact (u8w _).1 | exact (u8w _).2 | exact (u8n _).1 | exact (u8n _).2 | (simp only [byt, maxLen, lens]; omega) | (intros; simp only [nb] at *; omega))) ?_
  refine W.cond rfl (fun hb0 => ?_) (fun hb0 => ?_)
  · try simp only [nb, inr_t, inr_f, isEmpty_t] at hb0
    refine W.seq ?_
    refine W.reg X [] [] [8] [] rfl ⟨⟩ ?_
    refine W.ret ?_
    exact Fin.ret rfl ⟨by rw [mrow, if_neg (by omega)], ⟨⟩⟩
  · try simp only [nb, inr_t, inr_f, isEmpty_t] at hb0
    have hcs := cs_range (kh key [79, r, d]) 0
    refine W.skip ?_
    refine W.seq ?_
    refine W.reg X [] [(21, ⟨false, [.a (.lit (.int .i64 _))]⟩), (22, ⟨false, [.a (.lit (.int .i64 _))]⟩)] [8] [] rfl (by (repeat' (first | with_reducible exact AllP.nil | with_reducible refine AllP.mk ?_ ?_ | with_reducible apply And.intro)) <;> skip; (iterate 2 (all_goals try (first | exact (c_impl_KeyedHash _ _ (by first | assumption | omega | (simp; done) | (simp; omega))) | exact fun _ => (c_impl_KeyedHash _ _ (by first | assumption | omega | (simp; done) | (simp; omega))) | exact fun _ _ => (c_impl_KeyedHash _ _ (by first | assumption | omega | (simp; done) | (simp; omega))) | exact (c_impl_ChildSeed _ _) | exact fun _ => (c_impl_ChildSeed _ _) | exact fun _ _ => (c_impl_ChildSeed _ _)))); all_goals (first | (intros; omega) | exact rfl | exact El_all _ (by decide) | exact ⟨rfl, El_all _ (by decide)⟩ | ((intro h1; first | (intro h2; first | (intro h3; refine And.intro ?_ ?_) | refine And.intro ?_ ?_) | refine And.intro ?_ ?_) <;> first | omega | ((try simp only [nb, inr_t, inr_f] at *); (try simp (disch := omega) only [i64w]); omega)) | ((try simp only [nb, inr_t, inr_f] at *); (simp (disch := omega) only [i64w]); omega) | (refine fun _ => ?_; dsimp only [hyps, imps]; omega) | (refine fun _ _ => ?_; dsimp only [hyps, imps]; omega) | exact (u8w _).1 | exact (u8w _).2 | exact (u8n _).1 | exact (u8n _).2 | (simp only [byt, maxLen, lens]; omega) | (intros; simp only [nb] at *; omega))) ?_
    refine W.ret ?_
    exact Fin.ret rfl ⟨by rw [mrow, if_pos (by omega), tmod_pos hcs.1], ⟨⟩⟩
theorem c_spec_IsValidKey (k : Int) : Sound ty Try.prog 70 [.a (.lit (.int .i64 k))] [.a (.lit (.bool (okKey k)))] := by
  refine Sound.of X Try.call70 Try.func70 rfl rfl (by decide) Try.ntmps70 (by simp) ?_
  intro zb
  refine W.seq ?_
  refine W.reg X [] [] [0] [] rfl ⟨⟩ ?_
  refine W.seq ?_
  refine W.reg X [] [(4, ⟨false, [.a (.lit (.bool _))]⟩)] [2] [] rfl (by (repeat' (first | with_reducible exact AllP.nil | with_reducible refine AllP.mk ?_ ?_ | with_reducible apply And.intro)) <;> skip; (iterate 1 (all_goals try (first | exact (c_spec_l1In _ _ _) | exact fun _ => (c_spec_l1In _ _ _) | exact fun _ _ => (c_spec_l1In _ _ _)))); all_goals (first | (intros; omega) | exact rfl | exact El_all _ (by decide) | exact ⟨rfl, El_all _ (by decide)⟩ | ((intro h1; first | (intro h2; first | (intro h3; refine And.intro ?_ ?_) | refine And.intro ?_ ?_) | refine And.intro ?_ ?_) <;> first | omega | ((try simp only [nb, inr_t, inr_f] at *); (try simp (disch := omega) only [i64w]); omega)) | ((try simp only [nb, inr_t, inr_f] at *); (simp (disch := omega) only [i64w]); omega) | (refine fun _ => ?_; dsimp only [hyps, imps]; omega) | (refine fun _ _ => ?_; dsimp only [hyps, imps]; omega) | exact (u8w _).1 | exact (u8w _).2 | exact (u8n _).1 | exact (u8n _).2 | (simp only [byt, maxLen, lens]; omega) | (intros; simp only [nb] at *; omega))) ?_
  refine W.ret ?_
  exact Fin.ret rfl ⟨rfl, ⟨⟩⟩
theorem c_spec_MailboxRow (key r d n : Int) : Sound ty Try.prog 42 [.a (.lit (.int .i64 key)), .a (.lit (.int .i64 r)), .a (.lit (.int .i64 d)), .a (.lit (.int .i64 n))] [.a (.lit (.int .i64 (mrow key r d n)))] := by
  refine Sound.of X Try.call42 Try.func42 rfl rfl (by decide) Try.ntmps42 (by simp) ?_
  intro zb
  refine W.seq ?_
  refine W.reg X [] [] [0, 1, 2, 3] [] rfl ⟨⟩ ?_
  refine W.seq ?_
  refine W.seq ?_
  refine W.reg X [] [(10, ⟨false, [.a (.lit (.bool _))]⟩), (14, ⟨false, [.a (.lit (.bool _))]⟩)] [0, 1, 2, 3, 16] [] rfl (by (repeat' (first | with_reducible exact AllP.nil | with_reducible refine AllP.mk ?_ ?_ | with_reducible apply And.intro)) <;> skip; (iterate 1 (all_goals try (first | exact (c_spec_l1In _ _ _) | exact fun _ => (c_spec_l1In _ _ _) | exact fun _ _ => (c_spec_l1In _ _ _)))); all_goals (first | (intros; omega) | exact rfl | exact El_all _ (by decide) | exact ⟨rfl, El_all _ (by decide)⟩ | ((intro h1; first | (intro h2; first | (intro h3; refine And.intro ?_ ?_) | refine And.intro ?_ ?_) | refine And.intro ?_ ?_) <;> first | omega | ((try simp only [nb, inr_t, inr_f] at *); (try simp (disch := omega) only [i64w]); omega)) | ((try simp only [nb, inr_t, inr_f] at *); (simp (disch := omega) only [i64w]); omega) | (refine fun _ => ?_; dsimp only [hyps, imps]; omega) | (refine fun _ _ => ?_; dsimp only [hyps, imps]; omega) | exact (u8w _).1 | exact (u8w _).2 | exact (u8n _).1 | exact (u8n _).2 | (simp only [byt, maxLen, lens]; omega) | (intros; simp only [nb] at *; omega))) ?_
  refine W.cond rfl (fun hb0 => ?_) (fun hb0 => ?_)
  · try simp only [nb, inr_t, inr_f, isEmpty_t] at hb0
    refine W.seq ?_
    refine W.reg X [] [] [8] [] rfl ⟨⟩ ?_
    refine W.ret ?_
    exact Fin.ret rfl ⟨by rw [mrow, if_neg (by omega)], ⟨⟩⟩
  · try simp only [nb, inr_t, inr_f, isEmpty_t] at hb0
    have hcs := cs_range (kh key [79, r, d]) 0
    refine W.skip ?_
    refine W.seq ?_
    refine W.reg X [] [(21, ⟨false, [.a (.lit (.int .i64 _))]⟩), (22, ⟨false, [.a (.lit (.int .i64 _))]⟩)] [8] [] rfl (by (repeat' (first | with_reducible exact AllP.nil | with_reducible refine AllP.mk ?_ ?_ | with_reducible apply And.intro)) <;> skip; (iterate 2 (all_goals try (first | exact (c_spec_KeyedHash _ _ (by first | assumption | omega | (simp; done) | (simp; omega))) | exact fun _ => (c_spec_KeyedHash _ _ (by first | assumption | omega | (simp; done) | (simp; omega))) | exact fun _ _ => (c_spec_KeyedHash _ _ (by first | assumption | omega | (simp; done) | (simp; omega))) | exact (c_spec_ChildSeed _ _) | exact fun _ => (c_spec_ChildSeed _ _) | exact fun _ _ => (c_spec_ChildSeed _ _)))); all_goals (first | (intros; omega) | exact rfl | exact El_all _ (by decide) | exact ⟨rfl, El_all _ (by decide)⟩ | ((intro h1; first | (intro h2; first | (intro h3; refine And.intro ?_ ?_) | refine And.intro ?_ ?_) | refine And.intro ?_ ?_) <;> first | omega | ((try simp only [nb, inr_t, inr_f] at *); (try simp (disch := omega) only [i64w]); omega)) | ((try simp only [nb, inr_t, inr_f] at *); (simp (disch := omega) only [i64w]); omega) | (refine fun _ => ?_; dsimp only [hyps, imps]; omega) | (refine fun _ _ => ?_; dsimp only [hyps, imps]; omega) | exact (u8w _).1 | exact (u8w _).2 | exact (u8n _).1 | exact (u8n _).2 | (simp only [byt, maxLen, lens]; omega) | (intros; simp only [nb] at *; omega))) ?_
    refine W.ret ?_
    exact Fin.ret rfl ⟨by rw [mrow, if_pos (by omega), tmod_pos hcs.1], ⟨⟩⟩
end Go.Proofs.Ytlocnjfgeifmnaa.G
namespace Go.Proofs.Ytlocnjfgeifmnaa.G
set_option linter.all false
open Go.RowKit L D
set_option maxRecDepth 100000
theorem c_slices_IndexFunc_byte_byte (l : List (List UInt8)) (f : FuncId) (p : (List UInt8) → Bool) (hf : ∀ b, Sound ty Try.prog f [.a (.sl .u8 b)] [.a (.lit (.bool (p b)))]) : Sound ty Try.prog 127 [.a (.sl (.sl .u8) l), .a (.lit (.func (.func f) #[] #[]))] [.a (.lit (.int .i64 (fidx p l)))] := by
  refine Sound.of X Try.call127 Try.func127 rfl rfl (by decide) Try.ntmps127 (by simp) ?_
  intro zb
  refine W.bound 0 rfl (fun hll => ?_)
  refine W.seq ?_
  refine W.reg X [] [] [0, 1] [] rfl ⟨⟩ ?_
  refine W.seq ?_
  refine W.seq ?_
  refine W.reg X [] [] [0, 1, 7, 8] [] rfl ⟨⟩ ?_
  refine W.block ?_
  refine W.loopO (fun k => k ≤ l.length ∧ (l.take k).any p = false) (fun k : Nat => [(8, .one (.a (.lit (.int .i64 k))))]) (fun k => []) (fun k => l.length - k) 0 (fun k => rfl) ⟨Nat.zero_le _, rfl⟩ rfl ?_
  rintro k ⟨hk, hall⟩
  refine W.seq ?_
  refine W.reg X [] [] [0, 1, 7, 8, 9] [] rfl ⟨⟩ ?_
  refine W.seq ?_
  refine W.cond rfl (fun hb0 => ?_) (fun hb0 => ?_)
  · try simp only [nb, inr_t, inr_f, isEmpty_t] at hb0
    refine W.skip ?_
    refine W.seq ?_
    refine W.block ?_
    refine W.seq ?_
    refine W.reg X [] [] [0, 1, 5, 7, 8] [] rfl ⟨⟩ ?_
    refine W.seq ?_
    refine W.reg X [] [(16, ⟨false, [.a (.lit (.bool (p (l.getD k (dfl (.sl .u8))))))]⟩)] [0, 1, 5, 7, 8, 16] [] rfl (by (repeat' (first | with_reducible exact AllP.nil | with_reducible refine AllP.mk ?_ ?_ | with_reducible apply And.intro)) <;> skip; (iterate 1 (all_goals try (first | exact (hf _) | exact fun _ => (hf _) | exact fun _ _ => (hf _)))); all_goals (first | (intros; omega) | exact rfl | exact El_all _ (by decide) | exact ⟨rfl, El_all _ (by decide)⟩ | ((intro h1; first | (intro h2; first | (intro h3; refine And.intro ?_ ?_) | refine And.intro ?_ ?_) | refine And.intro ?_ ?_) <;> first | omega | ((try simp only [nb, inr_t, inr_f] at *); (try simp (disch := omega) only [i64w]); omega)) | ((try simp only [nb, inr_t, inr_f] at *); (simp (disch := omega) only [i64w]); omega) | (refine fun _ => ?_; dsimp only [hyps, imps]; omega) | (refine fun _ _ => ?_; dsimp only [hyps, imps]; omega) | exact (u8w _).1 | exact (u8w _).2 | exact (u8n _).1 | exact (u8n _).2 | (simp only [byt, maxLen, lens]; omega) | (intros; simp only [nb] at *; omega))) ?_
    refine W.cond rfl (fun hb1 => ?_) (fun hb1 => ?_)
    · skip
      refine W.seq ?_
      refine W.reg X [] [] [4] [] rfl ⟨⟩ ?_
      refine W.ret ?_
      exact Fin.ret rfl ⟨by rw [fidx_hit (dfl (.sl .u8)) hb0 hall hb1], ⟨⟩⟩
    · skip
      refine W.skip ?_
      refine W.reg X [] [] [0, 1, 7, 8] [] rfl ⟨⟩ ?_
      refine ⟨k + 1, ⟨by omega, any_no (dfl (.sl .u8)) hb0 hall hb1⟩, by omega, ?_⟩
      rw [wadd _ k rfl (by omega)]
      try rfl
  · try simp only [nb, inr_t, inr_f, isEmpty_t] at hb0
    refine W.exit ?_
    refine W.seq ?_
    refine W.reg X [] [] [4] [] rfl ⟨⟩ ?_
    refine W.ret ?_
    exact Fin.ret rfl ⟨by rw [fidx_miss (by rw [← hall, List.take_of_length_le hb0])], ⟨⟩⟩
theorem c_slices_ContainsFunc_byte_byte (l : List (List UInt8)) (f : FuncId) (p : (List UInt8) → Bool) (hf : ∀ b, Sound ty Try.prog f [.a (.sl .u8 b)] [.a (.lit (.bool (p b)))]) : Sound ty Try.prog 115 [.a (.sl (.sl .u8) l), .a (.lit (.func (.func f) #[] #[]))] [.a (.lit (.bool (l.any p)))] := by
  refine Sound.of X Try.call115 Try.func115 rfl rfl (by decide) Try.ntmps115 (by simp) ?_
  intro zb
  refine W.seq ?_
  refine W.reg X [] [] [0, 1] [] rfl ⟨⟩ ?_
  refine W.seq ?_
  refine W.reg X [] [(7, ⟨false, [.a (.lit (.int .i64 (fidx p l)))]⟩)] [4] [] rfl (by (repeat' (first | with_reducible exact AllP.nil | with_reducible refine AllP.mk ?_ ?_ | with_reducible apply And.intro)) <;> skip; (iterate 1 (all_goals try (first | exact (c_slices_IndexFunc_byte_byte l f p hf) | exact fun _ => (c_slices_IndexFunc_byte_byte l f p hf) | exact fun _ _ => (c_slices_IndexFunc_byte_byte l f p hf)))); all_goals (first | (intros; omega) | exact rfl | exact El_all _ (by decide) | exact ⟨rfl, El_all _ (by decide)⟩ | ((intro h1; first | (intro h2; first | (intro h3; refine And.intro ?_ ?_) | refine And.intro ?_ ?_) | refine And.intro ?_ ?_) <;> first | omega | ((try simp only [nb, inr_t, inr_f] at *); (try simp (disch := omega) only [i64w]); omega)) | ((try simp only [nb, inr_t, inr_f] at *); (simp (disch := omega) only [i64w]); omega) | (refine fun _ => ?_; dsimp only [hyps, imps]; omega) | (refine fun _ _ => ?_; dsimp only [hyps, imps]; omega) | exact (u8w _).1 | exact (u8w _).2 | exact (u8n _).1 | exact (u8n _).2 | (simp only [byt, maxLen, lens]; omega) | (intros; simp only [nb] at *; omega))) ?_
  refine W.ret ?_
  exact Fin.ret rfl ⟨congrArg Value.bool (fidx_ge p l), ⟨⟩⟩
theorem c_impl_IsValidDatabase_1 (b : List UInt8) : Sound ty Try.prog 116 [.a (.sl .u8 b)] [.a (.lit (.bool (!decide ((b.length : Int) = 24))))] := by
  refine Sound.of X Try.call116 Try.func116 rfl rfl (by decide) Try.ntmps116 (by simp) ?_
  intro zb
  refine W.seq ?_
  refine W.reg X [] [] [0] [] rfl ⟨⟩ ?_
  refine W.seq ?_
  refine W.reg X [] [] [2] [] rfl ⟨⟩ ?_
  refine W.ret ?_
  exact Fin.ret rfl ⟨(congrArg Value.bool (by simp only [ite_tt, ite_ff, gt_iff_lt, ge_iff_le, not_dlt, not_dle, bne_not, deq, decide_not, ne_eq, Bool.not_and, Bool.not_or, Bool.not_not, Bool.and_true, Bool.true_and, Bool.or_false, Bool.false_or, Int.toNat_natCast] <;> first | rfl | ac_rfl)), ⟨⟩⟩
theorem c_impl_IsValidDatabase (d : DB) : Sound ty Try.prog 97 [.agg (dec_DB d)] [.a (.lit (.bool (okDB d)))] := by
  refine Sound.of X Try.call97 Try.func97 rfl rfl (by decide) Try.ntmps97 (by simp) ?_
  intro zb
  refine W.seq ?_
  refine W.reg X [] [] [1] [] rfl ⟨⟩ ?_
  refine W.seq ?_
  refine W.reg X [] [(10, ⟨false, [.a (.lit (.bool (d.rows.any fun b => !decide ((b.length : Int) = 24))))]⟩)] [2] [] rfl (by (repeat' (first | with_reducible exact AllP.nil | with_reducible refine AllP.mk ?_ ?_ | with_reducible apply And.intro)) <;> skip; (iterate 1 (all_goals try (first | exact (c_slices_ContainsFunc_byte_byte _ _ _ c_impl_IsValidDatabase_1) | exact fun _ => (c_slices_ContainsFunc_byte_byte _ _ _ c_impl_IsValidDatabase_1) | exact fun _ _ => (c_slices_ContainsFunc_byte_byte _ _ _ c_impl_IsValidDatabase_1)))); all_goals (first | (intros; omega) | exact rfl | exact El_all _ (by decide) | exact ⟨rfl, El_all _ (by decide)⟩ | ((intro h1; first | (intro h2; first | (intro h3; refine And.intro ?_ ?_) | refine And.intro ?_ ?_) | refine And.intro ?_ ?_) <;> first | omega | ((try simp only [nb, inr_t, inr_f] at *); (try simp (disch := omega) only [i64w]); omega)) | ((try simp only [nb, inr_t, inr_f] at *); (simp (disch := omega) only [i64w]); omega) | (refine fun _ => ?_; dsimp only [hyps, imps]; omega) | (refine fun _ _ => ?_; dsimp only [hyps, imps]; omega) | exact (u8w _).1 | exact (u8w _).2 | exact (u8n _).1 | exact (u8n _).2 | (simp only [byt, maxLen, lens]; omega) | (intros; simp only [nb] at *; omega))) ?_
  refine W.ret ?_
  exact Fin.ret rfl ⟨by unfold okDB; rw [any_not_all]; by_cases h : (d.rows.length : Int) ≤ 64 <;> simp [h], ⟨⟩⟩
theorem c_spec_IsValidDatabase (d : DB) : Sound ty Try.prog 95 [.agg (dec_DB d)] [.a (.lit (.bool (okDB d)))] := by
  refine Sound.of X Try.call95 Try.func95 rfl rfl (by decide) Try.ntmps95 (by simp) ?_
  intro zb
  refine W.boundA 0 0 rfl rfl (fun hll => ?_)
  refine W.seq ?_
  refine W.reg X [] [] [1] [] rfl ⟨⟩ ?_
  refine W.seq ?_
  refine W.seq ?_
  refine W.reg X [] [] [1, 3] [] rfl ⟨⟩ ?_
  refine W.block ?_
  refine W.loopO (fun k => k ≤ d.rows.length ∧ (d.rows.take k).all (fun r => decide ((r.length : Int) = 24)) = true) (fun k : Nat => [(3, .one (.a (.lit (.int .i64 k))))]) (fun k => []) (fun k => d.rows.length - k) 0 (fun k => rfl) ⟨Nat.zero_le _, rfl⟩ rfl ?_
  rintro k ⟨hk, hall⟩
  refine W.seq ?_
  refine W.seq ?_
  refine W.reg X [] [] [1, 3, 8] [] rfl ⟨⟩ ?_
  refine W.cond rfl (fun hb0 => ?_) (fun hb0 => ?_)
  · try simp only [nb, inr_t, inr_f, isEmpty_t] at hb0
    refine W.skip ?_
    refine W.seq ?_
    refine W.block ?_
    refine W.seq ?_
    refine W.reg X [] [] [1, 3, 17] [] rfl (by (repeat' (first | exact True.intro | apply And.intro)) <;> first | (intros; omega) | exact rfl | exact El_all _ (by decide) | exact ⟨rfl, El_all _ (by decide)⟩ | ((intro h1; first | (intro h2; first | (intro h3; refine And.intro ?_ ?_) | refine And.intro ?_ ?_) | refine And.intro ?_ ?_) <;> first | omega | ((try simp only [nb, inr_t, inr_f] at *); (try simp (disch := omega) only [i64w]); omega)) | ((try simp only [nb, inr_t, inr_f] at *); (simp (disch := omega) only [i64w]); omega) | (refine fun _ => ?_; dsimp only [hyps, imps]; omega) | (refine fun _ _ => ?_; dsimp only [hyps, imps]; omega) | exact (u8w _).1 | exact (u8w _).2 | exact (u8n _).1 | exact (u8n _).2 | (simp only [byt, maxLen, lens]; omega) | (intros; simp only [nb] at *; omega)) ?_
    refine W.cond rfl (fun hb1 => ?_) (fun hb1 => ?_)
    · try simp only [nb, inr_t, inr_f, isEmpty_t] at hb1
      refine W.seq ?_
      refine W.reg X [] [] [2] [] rfl ⟨⟩ ?_
      refine W.ret ?_
      exact Fin.ret rfl ⟨by unfold okDB; rw [all_no _ _ (dfl (.sl .u8)) k hb0 (by simpa using hb1)]; simp, ⟨⟩⟩
    · try simp only [nb, inr_t, inr_f, isEmpty_t] at hb1
      refine W.skip ?_
      refine W.reg X [] [] [1, 3] [] rfl ⟨⟩ ?_
      refine ⟨k + 1, ⟨by omega, by rw [all_snoc _ _ _ (dfl (.sl .u8)) hb0, hall]; simpa using hb1⟩, by omega, ?_⟩
      rw [wadd _ k rfl (by omega)]
      try rfl
  · try simp only [nb, inr_t, inr_f, isEmpty_t] at hb0
    refine W.exit ?_
    refine W.seq ?_
    refine W.reg X [] [] [2] [] rfl ⟨⟩ ?_
    refine W.ret ?_
    exact Fin.ret rfl ⟨by rw [List.take_of_length_le hb0] at hall; unfold okDB; rw [hall]; simp, ⟨⟩⟩
theorem c_impl_LastRound (a : Arc) : Sound ty Try.prog 75 [.agg (dec_Arc a)] [.a (.lit (.int .i64 (lastR a)))] := by
  refine Sound.of X Try.call75 Try.func75 rfl rfl (by decide) Try.ntmps75 (by simp) ?_
  intro zb
  refine W.boundA 0 1 rfl rfl (fun hll => ?_)
  refine W.seq ?_
  refine W.reg X [] [] [1] [] rfl ⟨⟩ ?_
  refine W.seq ?_
  refine W.seq ?_
  refine W.reg X [] [] [1, 6] [] rfl ⟨⟩ ?_
  refine W.cond rfl (fun hb0 => ?_) (fun hb0 => ?_)
  · try simp only [nb, inr_t, inr_f, isEmpty_t] at hb0
    refine W.seq ?_
    refine W.reg X [] [] [2] [] rfl ⟨⟩ ?_
    refine W.ret ?_
    exact Fin.ret rfl ⟨by rw [lastR, if_pos (by omega)], ⟨⟩⟩
  · try simp only [nb, inr_t, inr_f, isEmpty_t] at hb0
    refine W.skip ?_
    refine W.seq ?_
    refine W.reg X [] [] [2] [] rfl (by (repeat' (first | exact True.intro | apply And.intro)) <;> first | (intros; omega) | exact rfl | exact El_all _ (by decide) | exact ⟨rfl, El_all _ (by decide)⟩ | ((intro h1; first | (intro h2; first | (intro h3; refine And.intro ?_ ?_) | refine And.intro ?_ ?_) | refine And.intro ?_ ?_) <;> first | omega | ((try simp only [nb, inr_t, inr_f] at *); (try simp (disch := omega) only [i64w]); omega)) | ((try simp only [nb, inr_t, inr_f] at *); (simp (disch := omega) only [i64w]); omega) | (refine fun _ => ?_; dsimp only [hyps, imps]; omega) | (refine fun _ _ => ?_; dsimp only [hyps, imps]; omega) | exact (u8w _).1 | exact (u8w _).2 | exact (u8n _).1 | exact (u8n _).2 | (simp only [byt, maxLen, lens]; omega) | (intros; simp only [nb] at *; omega)) ?_
    refine W.ret ?_
    exact Fin.ret rfl ⟨by rw [lastR, if_neg (by omega), i64w (by omega)]; congr 4; omega, ⟨⟩⟩
theorem c_spec_LastRound (a : Arc) : Sound ty Try.prog 69 [.agg (dec_Arc a)] [.a (.lit (.int .i64 (lastR a)))] := by
  refine Sound.of X Try.call69 Try.func69 rfl rfl (by decide) Try.ntmps69 (by simp) ?_
  intro zb
  refine W.boundA 0 1 rfl rfl (fun hll => ?_)
  refine W.seq ?_
  refine W.reg X [] [] [1] [] rfl ⟨⟩ ?_
  refine W.seq ?_
  refine W.seq ?_
  refine W.reg X [] [] [1, 6] [] rfl ⟨⟩ ?_
  refine W.cond rfl (fun hb0 => ?_) (fun hb0 => ?_)
  · try simp only [nb, inr_t, inr_f, isEmpty_t] at hb0
    refine W.seq ?_
    refine W.reg X [] [] [2] [] rfl ⟨⟩ ?_
    refine W.ret ?_
    exact Fin.ret rfl ⟨by rw [lastR, if_pos (by omega)], ⟨⟩⟩
  · try simp only [nb, inr_t, inr_f, isEmpty_t] at hb0
    refine W.skip ?_
    refine W.seq ?_
    refine W.reg X [] [] [2] [] rfl (by (repeat' (first | exact True.intro | apply And.intro)) <;> first | (intros; omega) | exact rfl | exact El_all _ (by decide) | exact ⟨rfl, El_all _ (by decide)⟩ | ((intro h1; first | (intro h2; first | (intro h3; refine And.intro ?_ ?_) | refine And.intro ?_ ?_) | refine And.intro ?_ ?_) <;> first | omega | ((try simp only [nb, inr_t, inr_f] at *); (try simp (disch := omega) only [i64w]); omega)) | ((try simp only [nb, inr_t, inr_f] at *); (simp (disch := omega) only [i64w]); omega) | (refine fun _ => ?_; dsimp only [hyps, imps]; omega) | (refine fun _ _ => ?_; dsimp only [hyps, imps]; omega) | exact (u8w _).1 | exact (u8w _).2 | exact (u8n _).1 | exact (u8n _).2 | (simp only [byt, maxLen, lens]; omega) | (intros; simp only [nb] at *; omega)) ?_
    refine W.ret ?_
    exact Fin.ret rfl ⟨by rw [lastR, if_neg (by omega), i64w (by omega)]; congr 4; omega, ⟨⟩⟩
theorem c_impl_IsValidServer (s : Srv) : Sound ty Try.prog 77 [.agg (dec_Srv s)] [.a (.lit (.bool (okSrv s)))] := by
  refine Sound.of X Try.call77 Try.func77 rfl rfl (by decide) Try.ntmps77 (by simp) ?_
  intro zb
  refine W.boundA 0 3 rfl rfl (fun hll => ?_)
  refine W.seq ?_
  refine W.reg X [] [] [1] [] rfl ⟨⟩ ?_
  refine W.seq ?_
  refine W.seq ?_
  refine W.reg X [] [(7, ⟨false, [.a (.lit (.bool (inr s.id 0 3)))]⟩), (12, ⟨false, [.a (.lit (.bool (inr s.rows 1 64)))]⟩), (18, ⟨false, [.a (.lit (.bool (inr s.behavior 0 3)))]⟩), (24, ⟨false, [.a (.lit (.bool (inr s.round 0 100000)))]⟩)] [1, 32] [] rfl (by (repeat' (first | with_reducible exact AllP.nil | with_reducible refine AllP.mk ?_ ?_ | with_reducible apply And.intro)) <;> skip; (iterate 4 (all_goals try (first | exact (c_impl_InRange s.id 0 3) | exact fun _ => (c_impl_InRange s.id 0 3) | exact fun _ _ => (c_impl_InRange s.id 0 3) | exact (c_impl_InRange s.rows 1 64) | exact fun _ => (c_impl_InRange s.rows 1 64) | exact fun _ _ => (c_impl_InRange s.rows 1 64) | exact (c_impl_InRange s.behavior 0 3) | exact fun _ => (c_impl_InRange s.behavior 0 3) | exact fun _ _ => (c_impl_InRange s.behavior 0 3) | exact (c_impl_InRange s.round 0 100000) | exact fun _ => (c_impl_InRange s.round 0 100000) | exact fun _ _ => (c_impl_InRange s.round 0 100000)))); all_goals (first | (intros; omega) | exact rfl | exact El_all _ (by decide) | exact ⟨rfl, El_all _ (by decide)⟩ | ((intro h1; first | (intro h2; first | (intro h3; refine And.intro ?_ ?_) | refine And.intro ?_ ?_) | refine And.intro ?_ ?_) <;> first | omega | ((try simp only [nb, inr_t, inr_f] at *); (try simp (disch := omega) only [i64w]); omega)) | ((try simp only [nb, inr_t, inr_f] at *); (simp (disch := omega) only [i64w]); omega) | (refine fun _ => ?_; dsimp only [hyps, imps]; omega) | (refine fun _ _ => ?_; dsimp only [hyps, imps]; omega) | exact (u8w _).1 | exact (u8w _).2 | exact (u8n _).1 | exact (u8n _).2 | (simp only [byt, maxLen, lens]; omega) | (intros; simp only [nb] at *; omega))) ?_
  refine W.cond rfl (fun hb0 => ?_) (fun hb0 => ?_)
  · skip
    refine W.seq ?_
    refine W.reg X [] [] [2] [] rfl ⟨⟩ ?_
    refine W.ret ?_
    exact Fin.ret rfl ⟨by rw [show okSrv s = false from or_no hb0 (by simp only [hdSrv, ite_tt, ite_ff, gt_iff_lt, ge_iff_le, not_dlt, not_dle, bne_not, deq, decide_not, ne_eq, Bool.not_and, Bool.not_or, Bool.not_not, Bool.and_true, Bool.true_and, Bool.or_false, Bool.false_or, Int.toNat_natCast] <;> first | rfl | ac_rfl)], ⟨⟩⟩
  · have hh : hdSrv s = true := or_yes hb0 (by simp only [hdSrv, ite_tt, ite_ff, gt_iff_lt, ge_iff_le, not_dlt, not_dle, bne_not, deq, decide_not, ne_eq, Bool.not_and, Bool.not_or, Bool.not_not, Bool.and_true, Bool.true_and, Bool.or_false, Bool.false_or, Int.toNat_natCast] <;> first | rfl | ac_rfl)
    refine W.skip ?_
    refine W.seq ?_
    refine W.seq ?_
    refine W.reg X [] [] [1, 34, 35, 36] [] rfl ⟨⟩ ?_
    refine W.block ?_
    refine W.loopO (fun k => k ≤ s.received.length ∧ (List.range k).all (okRec s.rows s.received) = true) (fun k : Nat => [(36, .one (.a (.lit (.int .i64 k))))]) (fun k => []) (fun k => s.received.length - k) 0 (fun k => rfl) ⟨Nat.zero_le _, rfl⟩ rfl ?_
    rintro k ⟨hk, hall⟩
    have hw : (IntKind.i64.wrap ((k : Int) - 1)).toNat = k - 1 := by rw [i64w (by omega)]; omega
    refine W.seq ?_
    refine W.reg X [] [] [1, 34, 35, 36, 37] [] rfl ⟨⟩ ?_
    refine W.seq ?_
    refine W.cond rfl (fun hb1 => ?_) (fun hb1 => ?_)
    · try simp only [nb, inr_t, inr_f, isEmpty_t] at hb1
      refine W.skip ?_
      refine W.seq ?_
      refine W.block ?_
      refine W.seq ?_
      refine W.reg X [] [] [1, 3, 4, 34, 35, 36] [] rfl (by (repeat' (first | exact True.intro | apply And.intro)) <;> first | (intros; omega) | exact rfl | exact El_all _ (by decide) | exact ⟨rfl, El_all _ (by decide)⟩ | ((intro h1; first | (intro h2; first | (intro h3; refine And.intro ?_ ?_) | refine And.intro ?_ ?_) | refine And.intro ?_ ?_) <;> first | omega | ((try simp only [nb, inr_t, inr_f] at *); (try simp (disch := omega) only [i64w]); omega)) | ((try simp only [nb, inr_t, inr_f] at *); (simp (disch := omega) only [i64w]); omega) | (refine fun _ => ?_; dsimp only [hyps, imps]; omega) | (refine fun _ _ => ?_; dsimp only [hyps, imps]; omega) | exact (u8w _).1 | exact (u8w _).2 | exact (u8n _).1 | exact (u8n _).2 | (simp only [byt, maxLen, lens]; omega) | (intros; simp only [nb] at *; omega)) ?_
      refine W.seq ?_
      refine W.draw X [] [(43, ⟨false, [.a (.lit (.bool (inr ((s.received.getD k (dfl .RShare)).client) 0 7)))]⟩), (64, ⟨false, [.a (.lit (.bool (okDB ((s.received.getD k (dfl .RShare)).share))))]⟩)] [1, 34, 35, 36, 75] [] 35 MO (by kernel_rfl) rfl (by (repeat' (first | with_reducible exact AllP.nil | with_reducible refine AllP.mk ?_ ?_ | with_reducible apply And.intro)) <;> skip; (iterate 2 (all_goals try (first | exact (c_impl_InRange ((s.received.getD k (dfl .RShare)).client) 0 7) | exact fun _ => (c_impl_InRange ((s.received.getD k (dfl .RShare)).client) 0 7) | exact fun _ _ => (c_impl_InRange ((s.received.getD k (dfl .RShare)).client) 0 7) | exact (c_impl_IsValidDatabase ((s.received.getD k (dfl .RShare)).share)) | exact fun _ => (c_impl_IsValidDatabase ((s.received.getD k (dfl .RShare)).share)) | exact fun _ _ => (c_impl_IsValidDatabase ((s.received.getD k (dfl .RShare)).share))))); all_goals (first | (intros; omega) | exact rfl | exact El_all _ (by decide) | exact ⟨rfl, El_all _ (by decide)⟩ | ((intro h1; first | (intro h2; first | (intro h3; refine And.intro ?_ ?_) | refine And.intro ?_ ?_) | refine And.intro ?_ ?_) <;> first | omega | ((try simp only [nb, inr_t, inr_f] at *); (try simp (disch := omega) only [i64w]); omega)) | ((try simp only [nb, inr_t, inr_f] at *); (simp (disch := omega) only [i64w]); omega) | (refine fun _ => ?_; dsimp only [hyps, imps]; omega) | (refine fun _ _ => ?_; dsimp only [hyps, imps]; omega) | exact (u8w _).1 | exact (u8w _).2 | exact (u8n _).1 | exact (u8n _).2 | (simp only [byt, maxLen, lens]; omega) | (intros; simp only [nb] at *; omega))) ?_
      refine W.cond rfl (fun hb2 => ?_) (fun hb2 => ?_)
      · have hk2 : okRec s.rows s.received k = false := or_no1 hb2 (by simp only [hw, okRec, ite_tt, ite_ff, gt_iff_lt, ge_iff_le, not_dlt, not_dle, bne_not, deq, decide_not, ne_eq, Bool.not_and, Bool.not_or, Bool.not_not, Bool.and_true, Bool.true_and, Bool.or_false, Bool.false_or, Int.toNat_natCast] <;> first | rfl | ac_rfl)
        refine W.seq ?_
        refine W.reg X [] [] [2] [] rfl ⟨⟩ ?_
        refine W.ret ?_
        exact Fin.ret rfl ⟨by rw [show okSrv s = false by unfold okSrv; rw [range_no hb1 hk2]; simp], ⟨⟩⟩
      · have hk2 : okRec s.rows s.received k = true := or_yes hb2 (by simp only [hw, okRec, ite_tt, ite_ff, gt_iff_lt, ge_iff_le, not_dlt, not_dle, bne_not, deq, decide_not, ne_eq, Bool.not_and, Bool.not_or, Bool.not_not, Bool.and_true, Bool.true_and, Bool.or_false, Bool.false_or, Int.toNat_natCast] <;> first | rfl | ac_rfl)
        refine W.skip ?_
        refine W.reg X [] [] [1, 34, 35, 36] [] rfl ⟨⟩ ?_
        refine ⟨k + 1, ⟨by omega, range_all hall hk2⟩, by omega, ?_⟩
        rw [wadd _ k rfl (by omega)]
        try rfl
    · try simp only [nb, inr_t, inr_f, isEmpty_t] at hb1
      have hall2 : (List.range s.received.length).all (okRec s.rows s.received) = true := by rw [show s.received.length = k by omega]; exact hall
      refine W.exit ?_
      refine W.seq ?_
      refine W.reg X [] [] [2] [] rfl ⟨⟩ ?_
      refine W.ret ?_
      exact Fin.ret rfl ⟨by rw [show okSrv s = true by unfold okSrv; rw [hh, hall2]; rfl], ⟨⟩⟩
theorem c_impl_IsValidArchive (a : Arc) : Sound ty Try.prog 74 [.agg (dec_Arc a)] [.a (.lit (.bool (okArc a)))] := by
  refine Sound.of X Try.call74 Try.func74 rfl rfl (by decide) Try.ntmps74 (by simp) ?_
  intro zb
  refine W.boundA 0 1 rfl rfl (fun hll => ?_)
  refine W.seq ?_
  refine W.reg X [] [] [1] [] rfl ⟨⟩ ?_
  refine W.seq ?_
  refine W.seq ?_
  refine W.reg X [] [] [1, 6, 7, 8] [] rfl ⟨⟩ ?_
  refine W.block ?_
  refine W.loopO (fun k => k ≤ a.rounds.length ∧ (List.range k).all (okAr a.rows a.rounds) = true) (fun k : Nat => [(8, .one (.a (.lit (.int .i64 k))))]) (fun k => []) (fun k => a.rounds.length - k) 0 (fun k => rfl) ⟨Nat.zero_le _, rfl⟩ rfl ?_
  rintro k ⟨hk, hall⟩
  have hw : (IntKind.i64.wrap ((k : Int) - 1)).toNat = k - 1 := by rw [i64w (by omega)]; omega
  refine W.seq ?_
  refine W.reg X [] [] [1, 6, 7, 8, 9] [] rfl ⟨⟩ ?_
  refine W.seq ?_
  refine W.cond rfl (fun hb0 => ?_) (fun hb0 => ?_)
  · try simp only [nb, inr_t, inr_f, isEmpty_t] at hb0
    refine W.skip ?_
    refine W.seq ?_
    refine W.block ?_
    refine W.seq ?_
    refine W.reg X [] [] [1, 3, 4, 6, 7, 8] [] rfl (by (repeat' (first | exact True.intro | apply And.intro)) <;> first | (intros; omega) | exact rfl | exact El_all _ (by decide) | exact ⟨rfl, El_all _ (by decide)⟩ | ((intro h1; first | (intro h2; first | (intro h3; refine And.intro ?_ ?_) | refine And.intro ?_ ?_) | refine And.intro ?_ ?_) <;> first | omega | ((try simp only [nb, inr_t, inr_f] at *); (try simp (disch := omega) only [i64w]); omega)) | ((try simp only [nb, inr_t, inr_f] at *); (simp (disch := omega) only [i64w]); omega) | (refine fun _ => ?_; dsimp only [hyps, imps]; omega) | (refine fun _ _ => ?_; dsimp only [hyps, imps]; omega) | exact (u8w _).1 | exact (u8w _).2 | exact (u8n _).1 | exact (u8n _).2 | (simp only [byt, maxLen, lens]; omega) | (intros; simp only [nb] at *; omega)) ?_
    refine W.seq ?_
    refine W.draw X [] [(15, ⟨false, [.a (.lit (.bool (inr ((a.rounds.getD k (dfl .ARound)).round) 0 100000)))]⟩), (36, ⟨false, [.a (.lit (.bool (okDB ((a.rounds.getD k (dfl .ARound)).db))))]⟩)] [1, 6, 7, 8, 47] [] 35 MO (by kernel_rfl) rfl (by (repeat' (first | with_reducible exact AllP.nil | with_reducible refine AllP.mk ?_ ?_ | with_reducible apply And.intro)) <;> skip; (iterate 2 (all_goals try (first | exact (c_impl_InRange ((a.rounds.getD k (dfl .ARound)).round) 0 100000) | exact fun _ => (c_impl_InRange ((a.rounds.getD k (dfl .ARound)).round) 0 100000) | exact fun _ _ => (c_impl_InRange ((a.rounds.getD k (dfl .ARound)).round) 0 100000) | exact (c_impl_IsValidDatabase ((a.rounds.getD k (dfl .ARound)).db)) | exact fun _ => (c_impl_IsValidDatabase ((a.rounds.getD k (dfl .ARound)).db)) | exact fun _ _ => (c_impl_IsValidDatabase ((a.rounds.getD k (dfl .ARound)).db))))); all_goals (first | (intros; omega) | exact rfl | exact El_all _ (by decide) | exact ⟨rfl, El_all _ (by decide)⟩ | ((intro h1; first | (intro h2; first | (intro h3; refine And.intro ?_ ?_) | refine And.intro ?_ ?_) | refine And.intro ?_ ?_) <;> first | omega | ((try simp only [nb, inr_t, inr_f] at *); (try simp (disch := omega) only [i64w]); omega)) | ((try simp only [nb, inr_t, inr_f] at *); (simp (disch := omega) only [i64w]); omega) | (refine fun _ => ?_; dsimp only [hyps, imps]; omega) | (refine fun _ _ => ?_; dsimp only [hyps, imps]; omega) | exact (u8w _).1 | exact (u8w _).2 | exact (u8n _).1 | exact (u8n _).2 | (simp only [byt, maxLen, lens]; omega) | (intros; simp only [nb] at *; omega))) ?_
    refine W.cond rfl (fun hb1 => ?_) (fun hb1 => ?_)
    · have hk2 : okAr a.rows a.rounds k = false := or_no1 hb1 (by simp only [hw, okAr, ite_tt, ite_ff, gt_iff_lt, ge_iff_le, not_dlt, not_dle, bne_not, deq, decide_not, ne_eq, Bool.not_and, Bool.not_or, Bool.not_not, Bool.and_true, Bool.true_and, Bool.or_false, Bool.false_or, Int.toNat_natCast] <;> first | rfl | ac_rfl)
      refine W.seq ?_
      refine W.reg X [] [] [2] [] rfl ⟨⟩ ?_
      refine W.ret ?_
      exact Fin.ret rfl ⟨by rw [show okArc a = false by unfold okArc; rw [range_no hb0 hk2]; simp], ⟨⟩⟩
    · have hk2 : okAr a.rows a.rounds k = true := or_yes hb1 (by simp only [hw, okAr, ite_tt, ite_ff, gt_iff_lt, ge_iff_le, not_dlt, not_dle, bne_not, deq, decide_not, ne_eq, Bool.not_and, Bool.not_or, Bool.not_not, Bool.and_true, Bool.true_and, Bool.or_false, Bool.false_or, Int.toNat_natCast] <;> first | rfl | ac_rfl)
      refine W.skip ?_
      refine W.reg X [] [] [1, 6, 7, 8] [] rfl ⟨⟩ ?_
      refine ⟨k + 1, ⟨by omega, range_all hall hk2⟩, by omega, ?_⟩
      rw [wadd _ k rfl (by omega)]
      try rfl
  · try simp only [nb, inr_t, inr_f, isEmpty_t] at hb0
    have hall2 : (List.range a.rounds.length).all (okAr a.rows a.rounds) = true := by rw [show a.rounds.length = k by omega]; exact hall
    refine W.exit ?_
    refine W.seq ?_
    refine W.reg X [] [(51, ⟨false, [.a (.lit (.bool (inr a.rows 1 64)))]⟩)] [2] [] rfl (by (repeat' (first | with_reducible exact AllP.nil | with_reducible refine AllP.mk ?_ ?_ | with_reducible apply And.intro)) <;> skip; (iterate 1 (all_goals try (first | exact (c_impl_InRange a.rows 1 64) | exact fun _ => (c_impl_InRange a.rows 1 64) | exact fun _ _ => (c_impl_InRange a.rows 1 64)))); all_goals (first | (intros; omega) | exact rfl | exact El_all _ (by decide) | exact ⟨rfl, El_all _ (by decide)⟩ | ((intro h1; first | (intro h2; first | (intro h3; refine And.intro ?_ ?_) | refine And.intro ?_ ?_) | refine And.intro ?_ ?_) <;> first | omega | ((try simp only [nb, inr_t, inr_f] at *); (try simp (disch := omega) only [i64w]); omega)) | ((try simp only [nb, inr_t, inr_f] at *); (simp (disch := omega) only [i64w]); omega) | (refine fun _ => ?_; dsimp only [hyps, imps]; omega) | (refine fun _ _ => ?_; dsimp only [hyps, imps]; omega) | exact (u8w _).1 | exact (u8w _).2 | exact (u8n _).1 | exact (u8n _).2 | (simp only [byt, maxLen, lens]; omega) | (intros; simp only [nb] at *; omega))) ?_
    refine W.ret ?_
    exact Fin.ret rfl ⟨(congrArg Value.bool (by simp only [okArc, hdArc, hall2, ite_tt, ite_ff, gt_iff_lt, ge_iff_le, not_dlt, not_dle, bne_not, deq, decide_not, ne_eq, Bool.not_and, Bool.not_or, Bool.not_not, Bool.and_true, Bool.true_and, Bool.or_false, Bool.false_or, Int.toNat_natCast] <;> first | rfl | ac_rfl)), ⟨⟩⟩
theorem c_spec_IsValidServer (s : Srv) : Sound ty Try.prog 93 [.agg (dec_Srv s)] [.a (.lit (.bool (okSrv s)))] := by
  refine Sound.of X Try.call93 Try.func93 rfl rfl (by decide) Try.ntmps93 (by simp) ?_
  intro zb
  refine W.boundA 0 3 rfl rfl (fun hll => ?_)
  refine W.seq ?_
  refine W.reg X [] [] [1] [] rfl ⟨⟩ ?_
  refine W.seq ?_
  refine W.seq ?_
  refine W.reg X [] [] [1, 3] [] rfl ⟨⟩ ?_
  refine W.block ?_
  refine W.loopO (fun k => k ≤ s.received.length ∧ (List.range k).all (okRec s.rows s.received) = true) (fun k : Nat => [(3, .one (.a (.lit (.int .i64 k))))]) (fun k => []) (fun k => s.received.length - k) 0 (fun k => rfl) ⟨Nat.zero_le _, rfl⟩ rfl ?_
  rintro k ⟨hk, hall⟩
  have hw : (IntKind.i64.wrap ((k : Int) - 1)).toNat = k - 1 := by rw [i64w (by omega)]; omega
  refine W.seq ?_
  refine W.seq ?_
  refine W.reg X [] [] [1, 3, 9] [] rfl ⟨⟩ ?_
  refine W.cond rfl (fun hb0 => ?_) (fun hb0 => ?_)
  · try simp only [nb, inr_t, inr_f, isEmpty_t] at hb0
    refine W.skip ?_
    refine W.seq ?_
    refine W.block ?_
    refine W.seq ?_
    refine W.reg X [] [] [1, 3, 4] [] rfl (by (repeat' (first | exact True.intro | apply And.intro)) <;> first | (intros; omega) | exact rfl | exact El_all _ (by decide) | exact ⟨rfl, El_all _ (by decide)⟩ | ((intro h1; first | (intro h2; first | (intro h3; refine And.intro ?_ ?_) | refine And.intro ?_ ?_) | refine And.intro ?_ ?_) <;> first | omega | ((try simp only [nb, inr_t, inr_f] at *); (try simp (disch := omega) only [i64w]); omega)) | ((try simp only [nb, inr_t, inr_f] at *); (simp (disch := omega) only [i64w]); omega) | (refine fun _ => ?_; dsimp only [hyps, imps]; omega) | (refine fun _ _ => ?_; dsimp only [hyps, imps]; omega) | exact (u8w _).1 | exact (u8w _).2 | exact (u8n _).1 | exact (u8n _).2 | (simp only [byt, maxLen, lens]; omega) | (intros; simp only [nb] at *; omega)) ?_
    refine W.seq ?_
    refine W.draw X [] [(19, ⟨false, [.a (.lit (.bool (inr ((s.received.getD k (dfl .RShare)).client) 0 7)))]⟩), (40, ⟨false, [.a (.lit (.bool (okDB ((s.received.getD k (dfl .RShare)).share))))]⟩)] [1, 3, 51] [] 35 MO (by kernel_rfl) rfl (by (repeat' (first | with_reducible exact AllP.nil | with_reducible refine AllP.mk ?_ ?_ | with_reducible apply And.intro)) <;> skip; (iterate 2 (all_goals try (first | exact (c_spec_l1In ((s.received.getD k (dfl .RShare)).client) 0 7) | exact fun _ => (c_spec_l1In ((s.received.getD k (dfl .RShare)).client) 0 7) | exact fun _ _ => (c_spec_l1In ((s.received.getD k (dfl .RShare)).client) 0 7) | exact (c_spec_IsValidDatabase ((s.received.getD k (dfl .RShare)).share)) | exact fun _ => (c_spec_IsValidDatabase ((s.received.getD k (dfl .RShare)).share)) | exact fun _ _ => (c_spec_IsValidDatabase ((s.received.getD k (dfl .RShare)).share))))); all_goals (first | (intros; omega) | exact rfl | exact El_all _ (by decide) | exact ⟨rfl, El_all _ (by decide)⟩ | ((intro h1; first | (intro h2; first | (intro h3; refine And.intro ?_ ?_) | refine And.intro ?_ ?_) | refine And.intro ?_ ?_) <;> first | omega | ((try simp only [nb, inr_t, inr_f] at *); (try simp (disch := omega) only [i64w]); omega)) | ((try simp only [nb, inr_t, inr_f] at *); (simp (disch := omega) only [i64w]); omega) | (refine fun _ => ?_; dsimp only [hyps, imps]; omega) | (refine fun _ _ => ?_; dsimp only [hyps, imps]; omega) | exact (u8w _).1 | exact (u8w _).2 | exact (u8n _).1 | exact (u8n _).2 | (simp only [byt, maxLen, lens]; omega) | (intros; simp only [nb] at *; omega))) ?_
    refine W.cond rfl (fun hb1 => ?_) (fun hb1 => ?_)
    · have hk2 : okRec s.rows s.received k = false := or_no1 hb1 (by simp only [hw, okRec, ite_tt, ite_ff, gt_iff_lt, ge_iff_le, not_dlt, not_dle, bne_not, deq, decide_not, ne_eq, Bool.not_and, Bool.not_or, Bool.not_not, Bool.and_true, Bool.true_and, Bool.or_false, Bool.false_or, Int.toNat_natCast] <;> first | rfl | ac_rfl)
      refine W.seq ?_
      refine W.reg X [] [] [2] [] rfl ⟨⟩ ?_
      refine W.ret ?_
      exact Fin.ret rfl ⟨by rw [show okSrv s = false by unfold okSrv; rw [range_no hb0 hk2]; simp], ⟨⟩⟩
    · have hk2 : okRec s.rows s.received k = true := or_yes hb1 (by simp only [hw, okRec, ite_tt, ite_ff, gt_iff_lt, ge_iff_le, not_dlt, not_dle, bne_not, deq, decide_not, ne_eq, Bool.not_and, Bool.not_or, Bool.not_not, Bool.and_true, Bool.true_and, Bool.or_false, Bool.false_or, Int.toNat_natCast] <;> first | rfl | ac_rfl)
      refine W.skip ?_
      refine W.reg X [] [] [1, 3] [] rfl ⟨⟩ ?_
      refine ⟨k + 1, ⟨by omega, range_all hall hk2⟩, by omega, ?_⟩
      rw [wadd _ k rfl (by omega)]
      try rfl
  · try simp only [nb, inr_t, inr_f, isEmpty_t] at hb0
    have hall2 : (List.range s.received.length).all (okRec s.rows s.received) = true := by rw [show s.received.length = k by omega]; exact hall
    refine W.exit ?_
    refine W.seq ?_
    refine W.reg X [] [(54, ⟨false, [.a (.lit (.bool (inr s.id 0 3)))]⟩), (58, ⟨false, [.a (.lit (.bool (inr s.rows 1 64)))]⟩), (63, ⟨false, [.a (.lit (.bool (inr s.behavior 0 3)))]⟩), (68, ⟨false, [.a (.lit (.bool (inr s.round 0 100000)))]⟩)] [2] [] rfl (by (repeat' (first | with_reducible exact AllP.nil | with_reducible refine AllP.mk ?_ ?_ | with_reducible apply And.intro)) <;> skip; (iterate 4 (all_goals try (first | exact (c_spec_l1In s.id 0 3) | exact fun _ => (c_spec_l1In s.id 0 3) | exact fun _ _ => (c_spec_l1In s.id 0 3) | exact (c_spec_l1In s.rows 1 64) | exact fun _ => (c_spec_l1In s.rows 1 64) | exact fun _ _ => (c_spec_l1In s.rows 1 64) | exact (c_spec_l1In s.behavior 0 3) | exact fun _ => (c_spec_l1In s.behavior 0 3) | exact fun _ _ => (c_spec_l1In s.behavior 0 3) | exact (c_spec_l1In s.round 0 100000) | exact fun _ => (c_spec_l1In s.round 0 100000) | exact fun _ _ => (c_spec_l1In s.round 0 100000)))); all_goals (first | (intros; omega) | exact rfl | exact El_all _ (by decide) | exact ⟨rfl, El_all _ (by decide)⟩ | ((intro h1; first | (intro h2; first | (intro h3; refine And.intro ?_ ?_) | refine And.intro ?_ ?_) | refine And.intro ?_ ?_) <;> first | omega | ((try simp only [nb, inr_t, inr_f] at *); (try simp (disch := omega) only [i64w]); omega)) | ((try simp only [nb, inr_t, inr_f] at *); (simp (disch := omega) only [i64w]); omega) | (refine fun _ => ?_; dsimp only [hyps, imps]; omega) | (refine fun _ _ => ?_; dsimp only [hyps, imps]; omega) | exact (u8w _).1 | exact (u8w _).2 | exact (u8n _).1 | exact (u8n _).2 | (simp only [byt, maxLen, lens]; omega) | (intros; simp only [nb] at *; omega))) ?_
    refine W.ret ?_
    exact Fin.ret rfl ⟨(congrArg Value.bool (by simp only [okSrv, hdSrv, hall2, ite_tt, ite_ff, gt_iff_lt, ge_iff_le, not_dlt, not_dle, bne_not, deq, decide_not, ne_eq, Bool.not_and, Bool.not_or, Bool.not_not, Bool.and_true, Bool.true_and, Bool.or_false, Bool.false_or, Int.toNat_natCast] <;> first | rfl | ac_rfl)), ⟨⟩⟩
theorem c_spec_IsValidArchive (a : Arc) : Sound ty Try.prog 68 [.agg (dec_Arc a)] [.a (.lit (.bool (okArc a)))] := by
  refine Sound.of X Try.call68 Try.func68 rfl rfl (by decide) Try.ntmps68 (by simp) ?_
  intro zb
  refine W.boundA 0 1 rfl rfl (fun hll => ?_)
  refine W.seq ?_
  refine W.reg X [] [] [1] [] rfl ⟨⟩ ?_
  refine W.seq ?_
  refine W.seq ?_
  refine W.reg X [] [] [1, 3] [] rfl ⟨⟩ ?_
  refine W.block ?_
  refine W.loopO (fun k => k ≤ a.rounds.length ∧ (List.range k).all (okAr a.rows a.rounds) = true) (fun k : Nat => [(3, .one (.a (.lit (.int .i64 k))))]) (fun k => []) (fun k => a.rounds.length - k) 0 (fun k => rfl) ⟨Nat.zero_le _, rfl⟩ rfl ?_
  rintro k ⟨hk, hall⟩
  have hw : (IntKind.i64.wrap ((k : Int) - 1)).toNat = k - 1 := by rw [i64w (by omega)]; omega
  refine W.seq ?_
  refine W.seq ?_
  refine W.reg X [] [] [1, 3, 9] [] rfl ⟨⟩ ?_
  refine W.cond rfl (fun hb0 => ?_) (fun hb0 => ?_)
  · try simp only [nb, inr_t, inr_f, isEmpty_t] at hb0
    refine W.skip ?_
    refine W.seq ?_
    refine W.block ?_
    refine W.seq ?_
    refine W.reg X [] [] [1, 3, 4] [] rfl (by (repeat' (first | exact True.intro | apply And.intro)) <;> first | (intros; omega) | exact rfl | exact El_all _ (by decide) | exact ⟨rfl, El_all _ (by decide)⟩ | ((intro h1; first | (intro h2; first | (intro h3; refine And.intro ?_ ?_) | refine And.intro ?_ ?_) | refine And.intro ?_ ?_) <;> first | omega | ((try simp only [nb, inr_t, inr_f] at *); (try simp (disch := omega) only [i64w]); omega)) | ((try simp only [nb, inr_t, inr_f] at *); (simp (disch := omega) only [i64w]); omega) | (refine fun _ => ?_; dsimp only [hyps, imps]; omega) | (refine fun _ _ => ?_; dsimp only [hyps, imps]; omega) | exact (u8w _).1 | exact (u8w _).2 | exact (u8n _).1 | exact (u8n _).2 | (simp only [byt, maxLen, lens]; omega) | (intros; simp only [nb] at *; omega)) ?_
    refine W.seq ?_
    refine W.draw X [] [(19, ⟨false, [.a (.lit (.bool (inr ((a.rounds.getD k (dfl .ARound)).round) 0 100000)))]⟩), (40, ⟨false, [.a (.lit (.bool (okDB ((a.rounds.getD k (dfl .ARound)).db))))]⟩)] [1, 3, 51] [] 35 MO (by kernel_rfl) rfl (by (repeat' (first | with_reducible exact AllP.nil | with_reducible refine AllP.mk ?_ ?_ | with_reducible apply And.intro)) <;> skip; (iterate 2 (all_goals try (first | exact (c_spec_l1In ((a.rounds.getD k (dfl .ARound)).round) 0 100000) | exact fun _ => (c_spec_l1In ((a.rounds.getD k (dfl .ARound)).round) 0 100000) | exact fun _ _ => (c_spec_l1In ((a.rounds.getD k (dfl .ARound)).round) 0 100000) | exact (c_spec_IsValidDatabase ((a.rounds.getD k (dfl .ARound)).db)) | exact fun _ => (c_spec_IsValidDatabase ((a.rounds.getD k (dfl .ARound)).db)) | exact fun _ _ => (c_spec_IsValidDatabase ((a.rounds.getD k (dfl .ARound)).db))))); all_goals (first | (intros; omega) | exact rfl | exact El_all _ (by decide) | exact ⟨rfl, El_all _ (by decide)⟩ | ((intro h1; first | (intro h2; first | (intro h3; refine And.intro ?_ ?_) | refine And.intro ?_ ?_) | refine And.intro ?_ ?_) <;> first | omega | ((try simp only [nb, inr_t, inr_f] at *); (try simp (disch := omega) only [i64w]); omega)) | ((try simp only [nb, inr_t, inr_f] at *); (simp (disch := omega) only [i64w]); omega) | (refine fun _ => ?_; dsimp only [hyps, imps]; omega) | (refine fun _ _ => ?_; dsimp only [hyps, imps]; omega) | exact (u8w _).1 | exact (u8w _).2 | exact (u8n _).1 | exact (u8n _).2 | (simp only [byt, maxLen, lens]; omega) | (intros; simp only [nb] at *; omega))) ?_
    refine W.cond rfl (fun hb1 => ?_) (fun hb1 => ?_)
    · have hk2 : okAr a.rows a.rounds k = false := or_no1 hb1 (by simp only [hw, okAr, ite_tt, ite_ff, gt_iff_lt, ge_iff_le, not_dlt, not_dle, bne_not, deq, decide_not, ne_eq, Bool.not_and, Bool.not_or, Bool.not_not, Bool.and_true, Bool.true_and, Bool.or_false, Bool.false_or, Int.toNat_natCast] <;> first | rfl | ac_rfl)
      refine W.seq ?_
      refine W.reg X [] [] [2] [] rfl ⟨⟩ ?_
      refine W.ret ?_
      exact Fin.ret rfl ⟨by rw [show okArc a = false by unfold okArc; rw [range_no hb0 hk2]; simp], ⟨⟩⟩
    · have hk2 : okAr a.rows a.rounds k = true := or_yes hb1 (by simp only [hw, okAr, ite_tt, ite_ff, gt_iff_lt, ge_iff_le, not_dlt, not_dle, bne_not, deq, decide_not, ne_eq, Bool.not_and, Bool.not_or, Bool.not_not, Bool.and_true, Bool.true_and, Bool.or_false, Bool.false_or, Int.toNat_natCast] <;> first | rfl | ac_rfl)
      refine W.skip ?_
      refine W.reg X [] [] [1, 3] [] rfl ⟨⟩ ?_
      refine ⟨k + 1, ⟨by omega, range_all hall hk2⟩, by omega, ?_⟩
      rw [wadd _ k rfl (by omega)]
      try rfl
  · try simp only [nb, inr_t, inr_f, isEmpty_t] at hb0
    have hall2 : (List.range a.rounds.length).all (okAr a.rows a.rounds) = true := by rw [show a.rounds.length = k by omega]; exact hall
    refine W.exit ?_
    refine W.seq ?_
    refine W.reg X [] [(54, ⟨false, [.a (.lit (.bool (inr a.rows 1 64)))]⟩)] [2] [] rfl (by (repeat' (first | with_reducible exact AllP.nil | with_reducible refine AllP.mk ?_ ?_ | with_reducible apply And.intro)) <;> skip; (iterate 1 (all_goals try (first | exact (c_spec_l1In a.rows 1 64) | exact fun _ => (c_spec_l1In a.rows 1 64) | exact fun _ _ => (c_spec_l1In a.rows 1 64)))); all_goals (first | (intros; omega) | exact rfl | exact El_all _ (by decide) | exact ⟨rfl, El_all _ (by decide)⟩ | ((intro h1; first | (intro h2; first | (intro h3; refine And.intro ?_ ?_) | refine And.intro ?_ ?_) | refine And.intro ?_ ?_) <;> first | omega | ((try simp only [nb, inr_t, inr_f] at *); (try simp (disch := omega) only [i64w]); omega)) | ((try simp only [nb, inr_t, inr_f] at *); (simp (disch := omega) only [i64w]); omega) | (refine fun _ => ?_; dsimp only [hyps, imps]; omega) | (refine fun _ _ => ?_; dsimp only [hyps, imps]; omega) | exact (u8w _).1 | exact (u8w _).2 | exact (u8n _).1 | exact (u8n _).2 | (simp only [byt, maxLen, lens]; omega) | (intros; simp only [nb] at *; omega))) ?_
    refine W.ret ?_
    exact Fin.ret rfl ⟨(congrArg Value.bool (by simp only [okArc, hdArc, hall2, ite_tt, ite_ff, gt_iff_lt, ge_iff_le, not_dlt, not_dle, bne_not, deq, decide_not, ne_eq, Bool.not_and, Bool.not_or, Bool.not_not, Bool.and_true, Bool.true_and, Bool.or_false, Bool.false_or, Int.toNat_natCast] <;> first | rfl | ac_rfl)), ⟨⟩⟩
theorem str8_toList (a : List UInt8) : (str8 a).toList = a := by
  rw [ByteArray.toList_eq]; rfl
theorem c_spec_EqualBytes (a b : List UInt8) : Sound ty Try.prog 126 [.a (.sl .u8 a), .a (.sl .u8 b)] [.a (.lit (.bool (a == b)))] := by
  refine Sound.of X Try.call126 Try.func126 rfl rfl (by decide) Try.ntmps126 (by simp) ?_
  intro zb
  refine W.seq ?_
  refine W.reg X [] [] [0, 1] [] rfl ⟨⟩ ?_
  refine W.seq ?_
  refine W.reg X [] [] [4] [] rfl ⟨⟩ ?_
  refine W.ret ?_
  exact Fin.ret rfl ⟨by rw [str8_toList, str8_toList], ⟨⟩⟩
theorem c_slices_Equal_byte_byte (a b : List UInt8) : Sound ty Try.prog 130 [.a (.sl .u8 a), .a (.sl .u8 b)] [.a (.lit (.bool (a == b)))] := by
  refine Sound.of X Try.call130 Try.func130 rfl rfl (by decide) Try.ntmps130 (by simp) ?_
  intro zb
  refine W.bound 0 rfl (fun hl1 => ?_)
  refine W.bound 1 rfl (fun hl2 => ?_)
  refine W.seq ?_
  refine W.reg X [] [] [0, 1] [] rfl ⟨⟩ ?_
  refine W.seq ?_
  refine W.seq ?_
  refine W.reg X [] [] [0, 1, 10] [] rfl ⟨⟩ ?_
  refine W.cond rfl (fun hb0 => ?_) (fun hb0 => ?_)
  · try simp only [nb, inr_t, inr_f, isEmpty_t] at hb0
    refine W.seq ?_
    refine W.reg X [] [] [4] [] rfl ⟨⟩ ?_
    refine W.ret ?_
    exact Fin.ret rfl ⟨by rw [ne_of_len a b hb0], ⟨⟩⟩
  · try simp only [nb, inr_t, inr_f, isEmpty_t] at hb0
    refine W.skip ?_
    refine W.seq ?_
    refine W.seq ?_
    refine W.reg X [] [] [0, 1, 12, 13] [] rfl ⟨⟩ ?_
    refine W.block ?_
    refine W.loopO (fun k => k ≤ a.length ∧ a.take k = b.take k) (fun k : Nat => [(13, .one (.a (.lit (.int .i64 k))))]) (fun k => []) (fun k => a.length - k) 0 (fun k => rfl) ⟨Nat.zero_le _, rfl⟩ rfl ?_
    rintro k ⟨hk, hall⟩
    refine W.seq ?_
    refine W.reg X [] [] [0, 1, 12, 13, 14] [] rfl ⟨⟩ ?_
    refine W.seq ?_
    refine W.cond rfl (fun hb1 => ?_) (fun hb1 => ?_)
    · try simp only [nb, inr_t, inr_f, isEmpty_t] at hb1
      refine W.skip ?_
      refine W.seq ?_
      refine W.block ?_
      refine W.seq ?_
      refine W.reg X [] [] [0, 1, 5, 12, 13] [] rfl ⟨⟩ ?_
      refine W.seq ?_
      refine W.draw X [] [] [0, 1, 12, 13, 24] [] 9 MO (by kernel_rfl) rfl (by (repeat' (first | exact True.intro | apply And.intro)) <;> first | (intros; omega) | exact rfl | exact El_all _ (by decide) | exact ⟨rfl, El_all _ (by decide)⟩ | ((intro h1; first | (intro h2; first | (intro h3; refine And.intro ?_ ?_) | refine And.intro ?_ ?_) | refine And.intro ?_ ?_) <;> first | omega | ((try simp only [nb, inr_t, inr_f] at *); (try simp (disch := omega) only [i64w]); omega)) | ((try simp only [nb, inr_t, inr_f] at *); (simp (disch := omega) only [i64w]); omega) | (refine fun _ => ?_; dsimp only [hyps, imps]; omega) | (refine fun _ _ => ?_; dsimp only [hyps, imps]; omega) | exact (u8w _).1 | exact (u8w _).2 | exact (u8n _).1 | exact (u8n _).2 | (simp only [byt, maxLen, lens]; omega) | (intros; simp only [nb] at *; omega)) ?_
      refine W.cond rfl (fun hb2 => ?_) (fun hb2 => ?_)
      · try simp only [nb, inr_t, inr_f, isEmpty_t] at hb2
        have hne := ne_of_getD a b (dfl .u8) k (fun h => hb2 (by rw [h]))
        refine W.seq ?_
        refine W.reg X [] [] [4] [] rfl ⟨⟩ ?_
        refine W.ret ?_
        exact Fin.ret rfl ⟨by rw [hne], ⟨⟩⟩
      · try simp only [nb, inr_t, inr_f, isEmpty_t] at hb2
        have he : a.getD k (dfl .u8) = b.getD k (dfl .u8) := u8_inj hb2
        refine W.skip ?_
        refine W.reg X [] [] [0, 1, 12, 13] [] rfl ⟨⟩ ?_
        refine ⟨k + 1, ⟨by omega, take_eq_step a b (dfl .u8) k hb1 (by omega) hall he⟩, by omega, ?_⟩
        rw [wadd _ k rfl (by omega)]
        try rfl
    · try simp only [nb, inr_t, inr_f, isEmpty_t] at hb1
      refine W.exit ?_
      refine W.seq ?_
      refine W.reg X [] [] [4] [] rfl ⟨⟩ ?_
      refine W.ret ?_
      exact Fin.ret rfl ⟨by rw [eq_of_take a b k (by omega) (by omega) hall], ⟨⟩⟩
theorem c_spec_EqualLists (a b : List (List UInt8)) : Sound ty Try.prog 113 [.a (.sl (.sl .u8) a), .a (.sl (.sl .u8) b)] [.a (.lit (.bool (a == b)))] := by
  refine Sound.of X Try.call113 Try.func113 rfl rfl (by decide) Try.ntmps113 (by simp) ?_
  intro zb
  refine W.bound 0 rfl (fun hl1 => ?_)
  refine W.bound 1 rfl (fun hl2 => ?_)
  refine W.seq ?_
  refine W.reg X [] [] [0, 1] [] rfl ⟨⟩ ?_
  refine W.seq ?_
  refine W.seq ?_
  refine W.reg X [] [] [0, 1, 10] [] rfl ⟨⟩ ?_
  refine W.cond rfl (fun hb0 => ?_) (fun hb0 => ?_)
  · try simp only [nb, inr_t, inr_f, isEmpty_t] at hb0
    refine W.seq ?_
    refine W.reg X [] [] [4] [] rfl ⟨⟩ ?_
    refine W.ret ?_
    exact Fin.ret rfl ⟨by rw [ne_of_len a b hb0], ⟨⟩⟩
  · try simp only [nb, inr_t, inr_f, isEmpty_t] at hb0
    refine W.skip ?_
    refine W.seq ?_
    refine W.seq ?_
    refine W.reg X [] [] [0, 1, 5] [] rfl ⟨⟩ ?_
    refine W.block ?_
    refine W.loopO (fun k => k ≤ a.length ∧ a.take k = b.take k) (fun k : Nat => [(5, .one (.a (.lit (.int .i64 k))))]) (fun k => []) (fun k => a.length - k) 0 (fun k => rfl) ⟨Nat.zero_le _, rfl⟩ rfl ?_
    rintro k ⟨hk, hall⟩
    refine W.seq ?_
    refine W.seq ?_
    refine W.reg X [] [] [0, 1, 5, 14] [] rfl ⟨⟩ ?_
    refine W.cond rfl (fun hb1 => ?_) (fun hb1 => ?_)
    · try simp only [nb, inr_t, inr_f, isEmpty_t] at hb1
      refine W.skip ?_
      refine W.seq ?_
      refine W.block ?_
      refine W.seq ?_
      refine W.draw X [] [(25, ⟨false, [.a (.lit (.bool _))]⟩)] [0, 1, 5, 26] [] 10 MO (by kernel_rfl) rfl (by (repeat' (first | with_reducible exact AllP.nil | with_reducible refine AllP.mk ?_ ?_ | with_reducible apply And.intro)) <;> skip; (iterate 1 (all_goals try (first | exact (c_spec_EqualBytes _ _) | exact fun _ => (c_spec_EqualBytes _ _) | exact fun _ _ => (c_spec_EqualBytes _ _)))); all_goals (first | (intros; omega) | exact rfl | exact El_all _ (by decide) | exact ⟨rfl, El_all _ (by decide)⟩ | ((intro h1; first | (intro h2; first | (intro h3; refine And.intro ?_ ?_) | refine And.intro ?_ ?_) | refine And.intro ?_ ?_) <;> first | omega | ((try simp only [nb, inr_t, inr_f] at *); (try simp (disch := omega) only [i64w]); omega)) | ((try simp only [nb, inr_t, inr_f] at *); (simp (disch := omega) only [i64w]); omega) | (refine fun _ => ?_; dsimp only [hyps, imps]; omega) | (refine fun _ _ => ?_; dsimp only [hyps, imps]; omega) | exact (u8w _).1 | exact (u8w _).2 | exact (u8n _).1 | exact (u8n _).2 | (simp only [byt, maxLen, lens]; omega) | (intros; simp only [nb] at *; omega))) ?_
      refine W.cond rfl (fun hb2 => ?_) (fun hb2 => ?_)
      · try simp only [nb, inr_t, inr_f, isEmpty_t] at hb2
        have hne := ne_of_getD a b (dfl (.sl .u8)) k (fun h => hb2 (by rw [h]))
        refine W.seq ?_
        refine W.reg X [] [] [4] [] rfl ⟨⟩ ?_
        refine W.ret ?_
        exact Fin.ret rfl ⟨by rw [hne], ⟨⟩⟩
      · try simp only [nb, inr_t, inr_f, isEmpty_t] at hb2
        have he : a.getD k (dfl (.sl .u8)) = b.getD k (dfl (.sl .u8)) := hb2
        refine W.skip ?_
        refine W.reg X [] [] [0, 1, 5] [] rfl ⟨⟩ ?_
        refine ⟨k + 1, ⟨by omega, take_eq_step a b (dfl (.sl .u8)) k hb1 (by omega) hall he⟩, by omega, ?_⟩
        rw [wadd _ k rfl (by omega)]
        try rfl
    · try simp only [nb, inr_t, inr_f, isEmpty_t] at hb1
      refine W.exit ?_
      refine W.seq ?_
      refine W.reg X [] [] [4] [] rfl ⟨⟩ ?_
      refine W.ret ?_
      exact Fin.ret rfl ⟨by rw [eq_of_take a b k (by omega) (by omega) hall], ⟨⟩⟩
theorem c_impl_EqualBytes (a b : List UInt8) : Sound ty Try.prog 129 [.a (.sl .u8 a), .a (.sl .u8 b)] [.a (.lit (.bool (a == b)))] := by
  refine Sound.of X Try.call129 Try.func129 rfl rfl (by decide) Try.ntmps129 (by simp) ?_
  intro zb
  refine W.seq ?_
  refine W.reg X [] [] [0, 1] [] rfl ⟨⟩ ?_
  refine W.seq ?_
  refine W.reg X [] [(7, ⟨false, [.a (.lit (.bool _))]⟩)] [4] [] rfl (by (repeat' (first | with_reducible exact AllP.nil | with_reducible refine AllP.mk ?_ ?_ | with_reducible apply And.intro)) <;> skip; (iterate 1 (all_goals try (first | exact (c_slices_Equal_byte_byte _ _) | exact fun _ => (c_slices_Equal_byte_byte _ _) | exact fun _ _ => (c_slices_Equal_byte_byte _ _)))); all_goals (first | (intros; omega) | exact rfl | exact El_all _ (by decide) | exact ⟨rfl, El_all _ (by decide)⟩ | ((intro h1; first | (intro h2; first | (intro h3; refine And.intro ?_ ?_) | refine And.intro ?_ ?_) | refine And.intro ?_ ?_) <;> first | omega | ((try simp only [nb, inr_t, inr_f] at *); (try simp (disch := omega) only [i64w]); omega)) | ((try simp only [nb, inr_t, inr_f] at *); (simp (disch := omega) only [i64w]); omega) | (refine fun _ => ?_; dsimp only [hyps, imps]; omega) | (refine fun _ _ => ?_; dsimp only [hyps, imps]; omega) | exact (u8w _).1 | exact (u8w _).2 | exact (u8n _).1 | exact (u8n _).2 | (simp only [byt, maxLen, lens]; omega) | (intros; simp only [nb] at *; omega))) ?_
  refine W.ret ?_
  exact Fin.ret rfl ⟨rfl, ⟨⟩⟩
theorem c_slices_EqualFunc_byte_byte_byte_byte (a b : List (List UInt8)) : Sound ty Try.prog 128 [.a (.sl (.sl .u8) a), .a (.sl (.sl .u8) b), .a (.lit (.func (.func 129) #[] #[]))] [.a (.lit (.bool (a == b)))] := by
  refine Sound.of X Try.call128 Try.func128 rfl rfl (by decide) Try.ntmps128 (by simp) ?_
  intro zb
  refine W.bound 0 rfl (fun hl1 => ?_)
  refine W.bound 1 rfl (fun hl2 => ?_)
  refine W.seq ?_
  refine W.reg X [] [] [0, 1, 2] [] rfl ⟨⟩ ?_
  refine W.seq ?_
  refine W.seq ?_
  refine W.reg X [] [] [0, 1, 2, 14] [] rfl ⟨⟩ ?_
  refine W.cond rfl (fun hb0 => ?_) (fun hb0 => ?_)
  · try simp only [nb, inr_t, inr_f, isEmpty_t] at hb0
    refine W.seq ?_
    refine W.reg X [] [] [6] [] rfl ⟨⟩ ?_
    refine W.ret ?_
    exact Fin.ret rfl ⟨by rw [ne_of_len a b hb0], ⟨⟩⟩
  · try simp only [nb, inr_t, inr_f, isEmpty_t] at hb0
    refine W.skip ?_
    refine W.seq ?_
    refine W.seq ?_
    refine W.reg X [] [] [1, 2, 15, 16, 17] [] rfl ⟨⟩ ?_
    refine W.block ?_
    refine W.loopO (fun k => k ≤ a.length ∧ a.take k = b.take k) (fun k : Nat => [(17, .one (.a (.lit (.int .i64 k))))]) (fun k => []) (fun k => a.length - k) 0 (fun k => rfl) ⟨Nat.zero_le _, rfl⟩ rfl ?_
    rintro k ⟨hk, hall⟩
    refine W.seq ?_
    refine W.reg X [] [] [1, 2, 15, 16, 17, 18] [] rfl ⟨⟩ ?_
    refine W.seq ?_
    refine W.cond rfl (fun hb1 => ?_) (fun hb1 => ?_)
    · try simp only [nb, inr_t, inr_f, isEmpty_t] at hb1
      refine W.skip ?_
      refine W.seq ?_
      refine W.block ?_
      refine W.seq ?_
      refine W.reg X [] [] [1, 2, 7, 8, 15, 16, 17] [] rfl (by (repeat' (first | exact True.intro | apply And.intro)) <;> first | (intros; omega) | exact rfl | exact El_all _ (by decide) | exact ⟨rfl, El_all _ (by decide)⟩ | ((intro h1; first | (intro h2; first | (intro h3; refine And.intro ?_ ?_) | refine And.intro ?_ ?_) | refine And.intro ?_ ?_) <;> first | omega | ((try simp only [nb, inr_t, inr_f] at *); (try simp (disch := omega) only [i64w]); omega)) | ((try simp only [nb, inr_t, inr_f] at *); (simp (disch := omega) only [i64w]); omega) | (refine fun _ => ?_; dsimp only [hyps, imps]; omega) | (refine fun _ _ => ?_; dsimp only [hyps, imps]; omega) | exact (u8w _).1 | exact (u8w _).2 | exact (u8n _).1 | exact (u8n _).2 | (simp only [byt, maxLen, lens]; omega) | (intros; simp only [nb] at *; omega)) ?_
      refine W.seq ?_
      refine W.reg X [] [] [1, 2, 8, 9, 15, 16, 17] [] rfl (by (repeat' (first | exact True.intro | apply And.intro)) <;> first | (intros; omega) | exact rfl | exact El_all _ (by decide) | exact ⟨rfl, El_all _ (by decide)⟩ | ((intro h1; first | (intro h2; first | (intro h3; refine And.intro ?_ ?_) | refine And.intro ?_ ?_) | refine And.intro ?_ ?_) <;> first | omega | ((try simp only [nb, inr_t, inr_f] at *); (try simp (disch := omega) only [i64w]); omega)) | ((try simp only [nb, inr_t, inr_f] at *); (simp (disch := omega) only [i64w]); omega) | (refine fun _ => ?_; dsimp only [hyps, imps]; omega) | (refine fun _ _ => ?_; dsimp only [hyps, imps]; omega) | exact (u8w _).1 | exact (u8w _).2 | exact (u8n _).1 | exact (u8n _).2 | (simp only [byt, maxLen, lens]; omega) | (intros; simp only [nb] at *; omega)) ?_
      refine W.seq ?_
      refine W.reg X [] [(29, ⟨false, [.a (.lit (.bool (a.getD k (dfl (.sl .u8)) == b.getD k (dfl (.sl .u8)))))]⟩)] [1, 2, 15, 16, 17, 30] [] rfl (by (repeat' (first | with_reducible exact AllP.nil | with_reducible refine AllP.mk ?_ ?_ | with_reducible apply And.intro)) <;> skip; (iterate 1 (all_goals try (first | exact (c_impl_EqualBytes _ _) | exact fun _ => (c_impl_EqualBytes _ _) | exact fun _ _ => (c_impl_EqualBytes _ _)))); all_goals (first | (intros; omega) | exact rfl | exact El_all _ (by decide) | exact ⟨rfl, El_all _ (by decide)⟩ | ((intro h1; first | (intro h2; first | (intro h3; refine And.intro ?_ ?_) | refine And.intro ?_ ?_) | refine And.intro ?_ ?_) <;> first | omega | ((try simp only [nb, inr_t, inr_f] at *); (try simp (disch := omega) only [i64w]); omega)) | ((try simp only [nb, inr_t, inr_f] at *); (simp (disch := omega) only [i64w]); omega) | (refine fun _ => ?_; dsimp only [hyps, imps]; omega) | (refine fun _ _ => ?_; dsimp only [hyps, imps]; omega) | exact (u8w _).1 | exact (u8w _).2 | exact (u8n _).1 | exact (u8n _).2 | (simp only [byt, maxLen, lens]; omega) | (intros; simp only [nb] at *; omega))) ?_
      refine W.cond rfl (fun hb2 => ?_) (fun hb2 => ?_)
      · try simp only [nb, inr_t, inr_f, isEmpty_t] at hb2
        have hne := ne_of_getD a b (dfl (.sl .u8)) k (fun h => hb2 (by rw [h]))
        refine W.seq ?_
        refine W.reg X [] [] [6] [] rfl ⟨⟩ ?_
        refine W.ret ?_
        exact Fin.ret rfl ⟨by rw [hne], ⟨⟩⟩
      · try simp only [nb, inr_t, inr_f, isEmpty_t] at hb2
        have he : a.getD k (dfl (.sl .u8)) = b.getD k (dfl (.sl .u8)) := hb2
        refine W.skip ?_
        refine W.reg X [] [] [1, 2, 15, 16, 17] [] rfl ⟨⟩ ?_
        refine ⟨k + 1, ⟨by omega, take_eq_step a b (dfl (.sl .u8)) k hb1 (by omega) hall he⟩, by omega, ?_⟩
        rw [wadd _ k rfl (by omega)]
        try rfl
    · try simp only [nb, inr_t, inr_f, isEmpty_t] at hb1
      refine W.exit ?_
      refine W.seq ?_
      refine W.reg X [] [] [6] [] rfl ⟨⟩ ?_
      refine W.ret ?_
      exact Fin.ret rfl ⟨by rw [eq_of_take a b k (by omega) (by omega) hall], ⟨⟩⟩
theorem c_impl_EqualLists (a b : List (List UInt8)) : Sound ty Try.prog 118 [.a (.sl (.sl .u8) a), .a (.sl (.sl .u8) b)] [.a (.lit (.bool (a == b)))] := by
  refine Sound.of X Try.call118 Try.func118 rfl rfl (by decide) Try.ntmps118 (by simp) ?_
  intro zb
  refine W.seq ?_
  refine W.reg X [] [] [0, 1] [] rfl ⟨⟩ ?_
  refine W.seq ?_
  refine W.reg X [] [(7, ⟨false, [.a (.lit (.bool _))]⟩)] [4] [] rfl (by (repeat' (first | with_reducible exact AllP.nil | with_reducible refine AllP.mk ?_ ?_ | with_reducible apply And.intro)) <;> skip; (iterate 1 (all_goals try (first | exact (c_slices_EqualFunc_byte_byte_byte_byte _ _) | exact fun _ => (c_slices_EqualFunc_byte_byte_byte_byte _ _) | exact fun _ _ => (c_slices_EqualFunc_byte_byte_byte_byte _ _)))); all_goals (first | (intros; omega) | exact rfl | exact El_all _ (by decide) | exact ⟨rfl, El_all _ (by decide)⟩ | ((intro h1; first | (intro h2; first | (intro h3; refine And.intro ?_ ?_) | refine And.intro ?_ ?_) | refine And.intro ?_ ?_) <;> first | omega | ((try simp only [nb, inr_t, inr_f] at *); (try simp (disch := omega) only [i64w]); omega)) | ((try simp only [nb, inr_t, inr_f] at *); (simp (disch := omega) only [i64w]); omega) | (refine fun _ => ?_; dsimp only [hyps, imps]; omega) | (refine fun _ _ => ?_; dsimp only [hyps, imps]; omega) | exact (u8w _).1 | exact (u8w _).2 | exact (u8n _).1 | exact (u8n _).2 | (simp only [byt, maxLen, lens]; omega) | (intros; simp only [nb] at *; omega))) ?_
  refine W.ret ?_
  exact Fin.ret rfl ⟨rfl, ⟨⟩⟩
theorem c_impl_IsValidClient_1 (b : List UInt8) : Sound ty Try.prog 117 [.a (.sl .u8 b)] [.a (.lit (.bool (long b)))] := by
  refine Sound.of X Try.call117 Try.func117 rfl rfl (by decide) Try.ntmps117 (by simp) ?_
  intro zb
  refine W.seq ?_
  refine W.reg X [] [] [0] [] rfl ⟨⟩ ?_
  refine W.seq ?_
  refine W.reg X [] [] [2] [] rfl ⟨⟩ ?_
  refine W.ret ?_
  exact Fin.ret rfl ⟨rfl, ⟨⟩⟩
theorem c_impl_isServerCount (n : Int) : Sound ty Try.prog 73 [.a (.lit (.int .i64 n))] [.a (.lit (.bool (srvCnt n)))] := by
  refine Sound.of X Try.call73 Try.func73 rfl rfl (by decide) Try.ntmps73 (by simp) ?_
  intro zb
  refine W.seq ?_
  refine W.reg X [] [] [0] [] rfl ⟨⟩ ?_
  refine W.seq ?_
  refine W.reg X [] [(4, ⟨false, [.a (.lit (.bool _))]⟩)] [2] [] rfl (by (repeat' (first | with_reducible exact AllP.nil | with_reducible refine AllP.mk ?_ ?_ | with_reducible apply And.intro)) <;> skip; (iterate 1 (all_goals try (first | exact (c_impl_InRange _ _ _) | exact fun _ => (c_impl_InRange _ _ _) | exact fun _ _ => (c_impl_InRange _ _ _)))); all_goals (first | (intros; omega) | exact rfl | exact El_all _ (by decide) | exact ⟨rfl, El_all _ (by decide)⟩ | ((intro h1; first | (intro h2; first | (intro h3; refine And.intro ?_ ?_) | refine And.intro ?_ ?_) | refine And.intro ?_ ?_) <;> first | omega | ((try simp only [nb, inr_t, inr_f] at *); (try simp (disch := omega) only [i64w]); omega)) | ((try simp only [nb, inr_t, inr_f] at *); (simp (disch := omega) only [i64w]); omega) | (refine fun _ => ?_; dsimp only [hyps, imps]; omega) | (refine fun _ _ => ?_; dsimp only [hyps, imps]; omega) | exact (u8w _).1 | exact (u8w _).2 | exact (u8n _).1 | exact (u8n _).2 | (simp only [byt, maxLen, lens]; omega) | (intros; simp only [nb] at *; omega))) ?_
  refine W.ret ?_
  exact Fin.ret rfl ⟨rfl, ⟨⟩⟩
theorem c_spec_l7Count (n : Int) : Sound ty Try.prog 84 [.a (.lit (.int .i64 n))] [.a (.lit (.bool (srvCnt n)))] := by
  refine Sound.of X Try.call84 Try.func84 rfl rfl (by decide) Try.ntmps84 (by simp) ?_
  intro zb
  refine W.seq ?_
  refine W.reg X [] [] [0] [] rfl ⟨⟩ ?_
  refine W.seq ?_
  refine W.reg X [] [(4, ⟨false, [.a (.lit (.bool _))]⟩)] [2] [] rfl (by (repeat' (first | with_reducible exact AllP.nil | with_reducible refine AllP.mk ?_ ?_ | with_reducible apply And.intro)) <;> skip; (iterate 1 (all_goals try (first | exact (c_spec_l1In _ _ _) | exact fun _ => (c_spec_l1In _ _ _) | exact fun _ _ => (c_spec_l1In _ _ _)))); all_goals (first | (intros; omega) | exact rfl | exact El_all _ (by decide) | exact ⟨rfl, El_all _ (by decide)⟩ | ((intro h1; first | (intro h2; first | (intro h3; refine And.intro ?_ ?_) | refine And.intro ?_ ?_) | refine And.intro ?_ ?_) <;> first | omega | ((try simp only [nb, inr_t, inr_f] at *); (try simp (disch := omega) only [i64w]); omega)) | ((try simp only [nb, inr_t, inr_f] at *); (simp (disch := omega) only [i64w]); omega) | (refine fun _ => ?_; dsimp only [hyps, imps]; omega) | (refine fun _ _ => ?_; dsimp only [hyps, imps]; omega) | exact (u8w _).1 | exact (u8w _).2 | exact (u8n _).1 | exact (u8n _).2 | (simp only [byt, maxLen, lens]; omega) | (intros; simp only [nb] at *; omega))) ?_
  refine W.ret ?_
  exact Fin.ret rfl ⟨rfl, ⟨⟩⟩
theorem c_impl_IsValidClient (c : Cli) : Sound ty Try.prog 98 [.agg (dec_Cli c)] [.a (.lit (.bool (okCli c)))] := by
  refine Sound.of X Try.call98 Try.func98 rfl rfl (by decide) Try.ntmps98 (by simp) ?_
  intro zb
  refine W.seq ?_
  refine W.reg X [] [] [1] [] rfl ⟨⟩ ?_
  refine W.seq ?_
  refine W.reg X [] [] [1, 3] [] rfl ⟨⟩ ?_
  refine W.seq ?_
  refine W.reg X [] [(6, ⟨false, [.a (.lit (.bool (inr c.id 0 7)))]⟩), (10, ⟨false, [.a (.lit (.bool (inr c.friend 0 7)))]⟩), (22, ⟨false, [.a (.lit (.bool (okKey c.key)))]⟩), (40, ⟨false, [.a (.lit (.bool (c.submitted.any long)))]⟩), (47, ⟨false, [.a (.lit (.bool (c.inbox.any long)))]⟩), (56, ⟨false, [.a (.lit (.bool (inr c.sent 0 (c.submitted.length : Int))))]⟩), (61, ⟨false, [.a (.lit (.bool (inr c.next 0 100000)))]⟩)] [2] [] rfl (by (repeat' (first | with_reducible exact AllP.nil | with_reducible refine AllP.mk ?_ ?_ | with_reducible apply And.intro)) <;> skip; (iterate 7 (all_goals try (first | exact (c_impl_InRange c.id 0 7) | exact fun _ => (c_impl_InRange c.id 0 7) | exact fun _ _ => (c_impl_InRange c.id 0 7) | exact (c_impl_InRange c.friend 0 7) | exact fun _ => (c_impl_InRange c.friend 0 7) | exact fun _ _ => (c_impl_InRange c.friend 0 7) | exact (c_impl_IsValidKey c.key) | exact fun _ => (c_impl_IsValidKey c.key) | exact fun _ _ => (c_impl_IsValidKey c.key) | exact (c_slices_ContainsFunc_byte_byte _ _ _ c_impl_IsValidClient_1) | exact fun _ => (c_slices_ContainsFunc_byte_byte _ _ _ c_impl_IsValidClient_1) | exact fun _ _ => (c_slices_ContainsFunc_byte_byte _ _ _ c_impl_IsValidClient_1) | exact (c_slices_ContainsFunc_byte_byte _ _ _ c_impl_IsValidClient_1) | exact fun _ => (c_slices_ContainsFunc_byte_byte _ _ _ c_impl_IsValidClient_1) | exact fun _ _ => (c_slices_ContainsFunc_byte_byte _ _ _ c_impl_IsValidClient_1) | exact (c_impl_InRange c.sent 0 (c.submitted.length : Int)) | exact fun _ => (c_impl_InRange c.sent 0 (c.submitted.length : Int)) | exact fun _ _ => (c_impl_InRange c.sent 0 (c.submitted.length : Int)) | exact (c_impl_InRange c.next 0 100000) | exact fun _ => (c_impl_InRange c.next 0 100000) | exact fun _ _ => (c_impl_InRange c.next 0 100000)))); all_goals (first | (intros; omega) | exact rfl | exact El_all _ (by decide) | exact ⟨rfl, El_all _ (by decide)⟩ | ((intro h1; first | (intro h2; first | (intro h3; refine And.intro ?_ ?_) | refine And.intro ?_ ?_) | refine And.intro ?_ ?_) <;> first | omega | ((try simp only [nb, inr_t, inr_f] at *); (try simp (disch := omega) only [i64w]); omega)) | ((try simp only [nb, inr_t, inr_f] at *); (simp (disch := omega) only [i64w]); omega) | (refine fun _ => ?_; dsimp only [hyps, imps]; omega) | (refine fun _ _ => ?_; dsimp only [hyps, imps]; omega) | exact (u8w _).1 | exact (u8w _).2 | exact (u8n _).1 | exact (u8n _).2 | (simp only [byt, maxLen, lens]; omega) | (intros; simp only [nb] at *; omega))) ?_
  refine W.ret ?_
  exact Fin.ret rfl ⟨(congrArg Value.bool (by simp only [okCli, ite_tt, ite_ff, gt_iff_lt, ge_iff_le, not_dlt, not_dle, bne_not, deq, decide_not, ne_eq, Bool.not_and, Bool.not_or, Bool.not_not, Bool.and_true, Bool.true_and, Bool.or_false, Bool.false_or, Int.toNat_natCast] <;> first | rfl | ac_rfl)), ⟨⟩⟩
theorem c_spec_l29Ok (i f k : Int) : Sound ty Try.prog 124 [.a (.lit (.int .i64 i)), .a (.lit (.int .i64 f)), .a (.lit (.int .i64 k))] [.a (.lit (.bool (inr i 0 7 && inr f 0 7 && !(i == f) && okKey k)))] := by
  refine Sound.of X Try.call124 Try.func124 rfl rfl (by decide) Try.ntmps124 (by simp) ?_
  intro zb
  refine W.seq ?_
  refine W.reg X [] [] [0, 1, 2] [] rfl ⟨⟩ ?_
  refine W.seq ?_
  refine W.reg X [] [(8, ⟨false, [.a (.lit (.bool (inr i 0 7)))]⟩), (11, ⟨false, [.a (.lit (.bool (inr f 0 7)))]⟩), (20, ⟨false, [.a (.lit (.bool (okKey k)))]⟩)] [6] [] rfl (by (repeat' (first | with_reducible exact AllP.nil | with_reducible refine AllP.mk ?_ ?_ | with_reducible apply And.intro)) <;> skip; (iterate 3 (all_goals try (first | exact (c_spec_l1In i 0 7) | exact fun _ => (c_spec_l1In i 0 7) | exact fun _ _ => (c_spec_l1In i 0 7) | exact (c_spec_l1In f 0 7) | exact fun _ => (c_spec_l1In f 0 7) | exact fun _ _ => (c_spec_l1In f 0 7) | exact (c_spec_IsValidKey k) | exact fun _ => (c_spec_IsValidKey k) | exact fun _ _ => (c_spec_IsValidKey k)))); all_goals (first | (intros; omega) | exact rfl | exact El_all _ (by decide) | exact ⟨rfl, El_all _ (by decide)⟩ | ((intro h1; first | (intro h2; first | (intro h3; refine And.intro ?_ ?_) | refine And.intro ?_ ?_) | refine And.intro ?_ ?_) <;> first | omega | ((try simp only [nb, inr_t, inr_f] at *); (try simp (disch := omega) only [i64w]); omega)) | ((try simp only [nb, inr_t, inr_f] at *); (simp (disch := omega) only [i64w]); omega) | (refine fun _ => ?_; dsimp only [hyps, imps]; omega) | (refine fun _ _ => ?_; dsimp only [hyps, imps]; omega) | exact (u8w _).1 | exact (u8w _).2 | exact (u8n _).1 | exact (u8n _).2 | (simp only [byt, maxLen, lens]; omega) | (intros; simp only [nb] at *; omega))) ?_
  refine W.ret ?_
  exact Fin.ret rfl ⟨(congrArg Value.bool (by simp only [ite_tt, ite_ff, gt_iff_lt, ge_iff_le, not_dlt, not_dle, bne_not, deq, decide_not, ne_eq, Bool.not_and, Bool.not_or, Bool.not_not, Bool.and_true, Bool.true_and, Bool.or_false, Bool.false_or, Int.toNat_natCast] <;> first | rfl | ac_rfl)), ⟨⟩⟩
theorem c_spec_l29Bodies (l : List (List UInt8)) : Sound ty Try.prog 125 [.a (.sl (.sl .u8) l)] [.a (.lit (.bool (decide ((l.length : Int) ≤ 16) && !l.any long)))] := by
  refine Sound.of X Try.call125 Try.func125 rfl rfl (by decide) Try.ntmps125 (by simp) ?_
  intro zb
  refine W.bound 0 rfl (fun hll => ?_)
  refine W.seq ?_
  refine W.reg X [] [] [0] [] rfl ⟨⟩ ?_
  refine W.seq ?_
  refine W.seq ?_
  refine W.reg X [] [] [0, 3] [] rfl ⟨⟩ ?_
  refine W.block ?_
  refine W.loopO (fun k => k ≤ l.length ∧ (l.take k).any long = false) (fun k : Nat => [(3, .one (.a (.lit (.int .i64 k))))]) (fun k => []) (fun k => l.length - k) 0 (fun k => rfl) ⟨Nat.zero_le _, rfl⟩ rfl ?_
  rintro k ⟨hk, hall⟩
  refine W.seq ?_
  refine W.seq ?_
  refine W.reg X [] [] [0, 3, 7] [] rfl ⟨⟩ ?_
  refine W.cond rfl (fun hb0 => ?_) (fun hb0 => ?_)
  · try simp only [nb, inr_t, inr_f, isEmpty_t] at hb0
    refine W.skip ?_
    refine W.seq ?_
    refine W.block ?_
    refine W.seq ?_
    refine W.reg X [] [] [0, 3, 15] [] rfl (by (repeat' (first | exact True.intro | apply And.intro)) <;> first | (intros; omega) | exact rfl | exact El_all _ (by decide) | exact ⟨rfl, El_all _ (by decide)⟩ | ((intro h1; first | (intro h2; first | (intro h3; refine And.intro ?_ ?_) | refine And.intro ?_ ?_) | refine And.intro ?_ ?_) <;> first | omega | ((try simp only [nb, inr_t, inr_f] at *); (try simp (disch := omega) only [i64w]); omega)) | ((try simp only [nb, inr_t, inr_f] at *); (simp (disch := omega) only [i64w]); omega) | (refine fun _ => ?_; dsimp only [hyps, imps]; omega) | (refine fun _ _ => ?_; dsimp only [hyps, imps]; omega) | exact (u8w _).1 | exact (u8w _).2 | exact (u8n _).1 | exact (u8n _).2 | (simp only [byt, maxLen, lens]; omega) | (intros; simp only [nb] at *; omega)) ?_
    refine W.cond rfl (fun hb1 => ?_) (fun hb1 => ?_)
    · skip
      refine W.seq ?_
      refine W.reg X [] [] [2] [] rfl ⟨⟩ ?_
      refine W.ret ?_
      exact Fin.ret rfl ⟨by rw [any_yes l long (dfl (.sl .u8)) k hb0 hb1]; simp, ⟨⟩⟩
    · skip
      refine W.skip ?_
      refine W.reg X [] [] [0, 3] [] rfl ⟨⟩ ?_
      refine ⟨k + 1, ⟨by omega, any_no (dfl (.sl .u8)) hb0 hall hb1⟩, by omega, ?_⟩
      rw [wadd _ k rfl (by omega)]
      try rfl
  · try simp only [nb, inr_t, inr_f, isEmpty_t] at hb0
    have hall2 : l.any long = false := by rw [← hall, List.take_of_length_le hb0]
    refine W.exit ?_
    refine W.seq ?_
    refine W.reg X [] [] [2] [] rfl ⟨⟩ ?_
    refine W.ret ?_
    exact Fin.ret rfl ⟨by rw [hall2]; simp, ⟨⟩⟩
theorem c_spec_IsValidClient (c : Cli) : Sound ty Try.prog 112 [.agg (dec_Cli c)] [.a (.lit (.bool (okCli c)))] := by
  refine Sound.of X Try.call112 Try.func112 rfl rfl (by decide) Try.ntmps112 (by simp) ?_
  intro zb
  refine W.seq ?_
  refine W.reg X [] [] [1] [] rfl ⟨⟩ ?_
  refine W.seq ?_
  refine W.reg X [] [(9, ⟨false, [.a (.lit (.bool (inr c.id 0 7 && inr c.friend 0 7 && !(c.id == c.friend) && okKey c.key)))]⟩), (13, ⟨false, [.a (.lit (.bool (decide ((c.submitted.length : Int) ≤ 16) && !c.submitted.any long)))]⟩), (18, ⟨false, [.a (.lit (.bool (decide ((c.inbox.length : Int) ≤ 16) && !c.inbox.any long)))]⟩), (26, ⟨false, [.a (.lit (.bool (inr c.sent 0 (c.submitted.length : Int))))]⟩), (31, ⟨false, [.a (.lit (.bool (inr c.next 0 100000)))]⟩)] [2] [] rfl (by (repeat' (first | with_reducible exact AllP.nil | with_reducible refine AllP.mk ?_ ?_ | with_reducible apply And.intro)) <;> skip; (iterate 5 (all_goals try (first | exact (c_spec_l29Ok c.id c.friend c.key) | exact fun _ => (c_spec_l29Ok c.id c.friend c.key) | exact fun _ _ => (c_spec_l29Ok c.id c.friend c.key) | exact (c_spec_l29Bodies c.submitted) | exact fun _ => (c_spec_l29Bodies c.submitted) | exact fun _ _ => (c_spec_l29Bodies c.submitted) | exact (c_spec_l29Bodies c.inbox) | exact fun _ => (c_spec_l29Bodies c.inbox) | exact fun _ _ => (c_spec_l29Bodies c.inbox) | exact (c_spec_l1In c.sent 0 (c.submitted.length : Int)) | exact fun _ => (c_spec_l1In c.sent 0 (c.submitted.length : Int)) | exact fun _ _ => (c_spec_l1In c.sent 0 (c.submitted.length : Int)) | exact (c_spec_l1In c.next 0 100000) | exact fun _ => (c_spec_l1In c.next 0 100000) | exact fun _ _ => (c_spec_l1In c.next 0 100000)))); all_goals (first | (intros; omega) | exact rfl | exact El_all _ (by decide) | exact ⟨rfl, El_all _ (by decide)⟩ | ((intro h1; first | (intro h2; first | (intro h3; refine And.intro ?_ ?_) | refine And.intro ?_ ?_) | refine And.intro ?_ ?_) <;> first | omega | ((try simp only [nb, inr_t, inr_f] at *); (try simp (disch := omega) only [i64w]); omega)) | ((try simp only [nb, inr_t, inr_f] at *); (simp (disch := omega) only [i64w]); omega) | (refine fun _ => ?_; dsimp only [hyps, imps]; omega) | (refine fun _ _ => ?_; dsimp only [hyps, imps]; omega) | exact (u8w _).1 | exact (u8w _).2 | exact (u8n _).1 | exact (u8n _).2 | (simp only [byt, maxLen, lens]; omega) | (intros; simp only [nb] at *; omega))) ?_
  refine W.ret ?_
  exact Fin.ret rfl ⟨(congrArg Value.bool (by simp only [okCli, ite_tt, ite_ff, gt_iff_lt, ge_iff_le, not_dlt, not_dle, bne_not, deq, decide_not, ne_eq, Bool.not_and, Bool.not_or, Bool.not_not, Bool.and_true, Bool.true_and, Bool.or_false, Bool.false_or, Int.toNat_natCast] <;> first | rfl | ac_rfl)), ⟨⟩⟩
theorem c_impl_sameOwner (a b : Cli) : Sound ty Try.prog 99 [.agg (dec_Cli a), .agg (dec_Cli b)] [.a (.lit (.bool (sameOwn a b)))] := by
  refine Sound.of X Try.call99 Try.func99 rfl rfl (by decide) Try.ntmps99 (by simp) ?_
  intro zb
  refine W.seq ?_
  refine W.reg X [] [] [2, 3] [] rfl ⟨⟩ ?_
  refine W.seq ?_
  refine W.reg X [] [(36, ⟨false, [.a (.lit (.bool (a.submitted == b.submitted)))]⟩)] [4] [] rfl (by (repeat' (first | with_reducible exact AllP.nil | with_reducible refine AllP.mk ?_ ?_ | with_reducible apply And.intro)) <;> skip; (iterate 1 (all_goals try (first | exact (c_impl_EqualLists a.submitted b.submitted) | exact fun _ => (c_impl_EqualLists a.submitted b.submitted) | exact fun _ _ => (c_impl_EqualLists a.submitted b.submitted)))); all_goals (first | (intros; omega) | exact rfl | exact El_all _ (by decide) | exact ⟨rfl, El_all _ (by decide)⟩ | ((intro h1; first | (intro h2; first | (intro h3; refine And.intro ?_ ?_) | refine And.intro ?_ ?_) | refine And.intro ?_ ?_) <;> first | omega | ((try simp only [nb, inr_t, inr_f] at *); (try simp (disch := omega) only [i64w]); omega)) | ((try simp only [nb, inr_t, inr_f] at *); (simp (disch := omega) only [i64w]); omega) | (refine fun _ => ?_; dsimp only [hyps, imps]; omega) | (refine fun _ _ => ?_; dsimp only [hyps, imps]; omega) | exact (u8w _).1 | exact (u8w _).2 | exact (u8n _).1 | exact (u8n _).2 | (simp only [byt, maxLen, lens]; omega) | (intros; simp only [nb] at *; omega))) ?_
  refine W.ret ?_
  exact Fin.ret rfl ⟨(congrArg Value.bool (by simp only [sameOwn, ite_tt, ite_ff, gt_iff_lt, ge_iff_le, not_dlt, not_dle, bne_not, deq, decide_not, ne_eq, Bool.not_and, Bool.not_or, Bool.not_not, Bool.and_true, Bool.true_and, Bool.or_false, Bool.false_or, Int.toNat_natCast] <;> first | rfl | ac_rfl)), ⟨⟩⟩
theorem c_impl_isPrefix (a b : List (List UInt8)) : Sound ty Try.prog 100 [.a (.sl (.sl .u8) a), .a (.sl (.sl .u8) b)] [.a (.lit (.bool (preL a b)))] := by
  refine Sound.of X Try.call100 Try.func100 rfl rfl (by decide) Try.ntmps100 (by simp) ?_
  intro zb
  refine W.seq ?_
  refine W.reg X [] [] [0, 1] [] rfl ⟨⟩ ?_
  refine W.seq ?_
  refine W.reg X [] [(16, ⟨false, [.a (.lit (.bool (a == ((b.take (a.length : Int).toNat).drop (0 : Int).toNat))))]⟩)] [4] [] rfl (by (repeat' (first | with_reducible exact AllP.nil | with_reducible refine AllP.mk ?_ ?_ | with_reducible apply And.intro)) <;> skip; (iterate 1 (all_goals try (first | exact (c_impl_EqualLists a ((b.take (a.length : Int).toNat).drop (0 : Int).toNat)) | exact fun _ => (c_impl_EqualLists a ((b.take (a.length : Int).toNat).drop (0 : Int).toNat)) | exact fun _ _ => (c_impl_EqualLists a ((b.take (a.length : Int).toNat).drop (0 : Int).toNat))))); all_goals (first | (intros; omega) | exact rfl | exact El_all _ (by decide) | exact ⟨rfl, El_all _ (by decide)⟩ | ((intro h1; first | (intro h2; first | (intro h3; refine And.intro ?_ ?_) | refine And.intro ?_ ?_) | refine And.intro ?_ ?_) <;> first | omega | ((try simp only [nb, inr_t, inr_f] at *); (try simp (disch := omega) only [i64w]); omega)) | ((try simp only [nb, inr_t, inr_f] at *); (simp (disch := omega) only [i64w]); omega) | (refine fun _ => ?_; dsimp only [hyps, imps]; omega) | (refine fun _ _ => ?_; dsimp only [hyps, imps]; omega) | exact (u8w _).1 | exact (u8w _).2 | exact (u8n _).1 | exact (u8n _).2 | (simp only [byt, maxLen, lens]; omega) | (intros; simp only [nb] at *; omega))) ?_
  refine W.ret ?_
  exact Fin.ret rfl ⟨(congrArg Value.bool (by simp only [preL, List.drop_zero, Int.toNat_zero, ite_tt, ite_ff, gt_iff_lt, ge_iff_le, not_dlt, not_dle, bne_not, deq, decide_not, ne_eq, Bool.not_and, Bool.not_or, Bool.not_not, Bool.and_true, Bool.true_and, Bool.or_false, Bool.false_or, Int.toNat_natCast] <;> first | rfl | ac_rfl)), ⟨⟩⟩
theorem c_impl_IsValidDevice (d : Dev) : Sound ty Try.prog 78 [.agg (dec_Dev d)] [.a (.lit (.bool (okDev d)))] := by
  refine Sound.of X Try.call78 Try.func78 rfl rfl (by decide) Try.ntmps78 (by simp) ?_
  intro zb
  refine W.seq ?_
  refine W.reg X [] [] [1] [] rfl ⟨⟩ ?_
  refine W.seq ?_
  refine W.reg X [] [(5, ⟨false, [.a (.lit (.bool (okCli d.live)))]⟩), (9, ⟨false, [.a (.lit (.bool (okCli d.saved)))]⟩), (16, ⟨false, [.a (.lit (.bool (sameOwn d.live d.saved)))]⟩), (43, ⟨false, [.a (.lit (.bool (preL d.saved.inbox d.live.inbox)))]⟩)] [2] [] rfl (by (repeat' (first | with_reducible exact AllP.nil | with_reducible refine AllP.mk ?_ ?_ | with_reducible apply And.intro)) <;> skip; (iterate 4 (all_goals try (first | exact (c_impl_IsValidClient d.live) | exact fun _ => (c_impl_IsValidClient d.live) | exact fun _ _ => (c_impl_IsValidClient d.live) | exact (c_impl_IsValidClient d.saved) | exact fun _ => (c_impl_IsValidClient d.saved) | exact fun _ _ => (c_impl_IsValidClient d.saved) | exact (c_impl_sameOwner d.live d.saved) | exact fun _ => (c_impl_sameOwner d.live d.saved) | exact fun _ _ => (c_impl_sameOwner d.live d.saved) | exact (c_impl_isPrefix d.saved.inbox d.live.inbox) | exact fun _ => (c_impl_isPrefix d.saved.inbox d.live.inbox) | exact fun _ _ => (c_impl_isPrefix d.saved.inbox d.live.inbox)))); all_goals (first | (intros; omega) | exact rfl | exact El_all _ (by decide) | exact ⟨rfl, El_all _ (by decide)⟩ | ((intro h1; first | (intro h2; first | (intro h3; refine And.intro ?_ ?_) | refine And.intro ?_ ?_) | refine And.intro ?_ ?_) <;> first | omega | ((try simp only [nb, inr_t, inr_f] at *); (try simp (disch := omega) only [i64w]); omega)) | ((try simp only [nb, inr_t, inr_f] at *); (simp (disch := omega) only [i64w]); omega) | (refine fun _ => ?_; dsimp only [hyps, imps]; omega) | (refine fun _ _ => ?_; dsimp only [hyps, imps]; omega) | exact (u8w _).1 | exact (u8w _).2 | exact (u8n _).1 | exact (u8n _).2 | (simp only [byt, maxLen, lens]; omega) | (intros; simp only [nb] at *; omega))) ?_
  refine W.ret ?_
  exact Fin.ret rfl ⟨(congrArg Value.bool (by simp only [okDev, ite_tt, ite_ff, gt_iff_lt, ge_iff_le, not_dlt, not_dle, bne_not, deq, decide_not, ne_eq, Bool.not_and, Bool.not_or, Bool.not_not, Bool.and_true, Bool.true_and, Bool.or_false, Bool.false_or, Int.toNat_natCast] <;> first | rfl | ac_rfl)), ⟨⟩⟩
theorem c_spec_IsValidDevice (d : Dev) : Sound ty Try.prog 94 [.agg (dec_Dev d)] [.a (.lit (.bool (okDev d)))] := by
  refine Sound.of X Try.call94 Try.func94 rfl rfl (by decide) Try.ntmps94 (by simp) ?_
  intro zb
  refine W.seq ?_
  refine W.reg X [] [] [1] [] rfl ⟨⟩ ?_
  refine W.seq ?_
  refine W.reg X [] [] [1, 3] [] rfl ⟨⟩ ?_
  refine W.seq ?_
  refine W.reg X [] [] [3, 4] [] rfl ⟨⟩ ?_
  refine W.seq ?_
  refine W.seq ?_
  refine W.reg X [] [(10, ⟨false, [.a (.lit (.bool (okCli d.live)))]⟩), (14, ⟨false, [.a (.lit (.bool (okCli d.saved)))]⟩), (50, ⟨false, [.a (.lit (.bool (d.live.submitted == d.saved.submitted)))]⟩)] [3, 4, 52] [] rfl (by (repeat' (first | with_reducible exact AllP.nil | with_reducible refine AllP.mk ?_ ?_ | with_reducible apply And.intro)) <;> skip; (iterate 3 (all_goals try (first | exact (c_spec_IsValidClient d.live) | exact fun _ => (c_spec_IsValidClient d.live) | exact fun _ _ => (c_spec_IsValidClient d.live) | exact (c_spec_IsValidClient d.saved) | exact fun _ => (c_spec_IsValidClient d.saved) | exact fun _ _ => (c_spec_IsValidClient d.saved) | exact (c_spec_EqualLists d.live.submitted d.saved.submitted) | exact fun _ => (c_spec_EqualLists d.live.submitted d.saved.submitted) | exact fun _ _ => (c_spec_EqualLists d.live.submitted d.saved.submitted)))); all_goals (first | (intros; omega) | exact rfl | exact El_all _ (by decide) | exact ⟨rfl, El_all _ (by decide)⟩ | ((intro h1; first | (intro h2; first | (intro h3; refine And.intro ?_ ?_) | refine And.intro ?_ ?_) | refine And.intro ?_ ?_) <;> first | omega | ((try simp only [nb, inr_t, inr_f] at *); (try simp (disch := omega) only [i64w]); omega)) | ((try simp only [nb, inr_t, inr_f] at *); (simp (disch := omega) only [i64w]); omega) | (refine fun _ => ?_; dsimp only [hyps, imps]; omega) | (refine fun _ _ => ?_; dsimp only [hyps, imps]; omega) | exact (u8w _).1 | exact (u8w _).2 | exact (u8n _).1 | exact (u8n _).2 | (simp only [byt, maxLen, lens]; omega) | (intros; simp only [nb] at *; omega))) ?_
  refine W.cond rfl (fun hb0 => ?_) (fun hb0 => ?_)
  · skip
    refine W.seq ?_
    refine W.reg X [] [] [2] [] rfl ⟨⟩ ?_
    refine W.ret ?_
    exact Fin.ret rfl ⟨by rw [show okDev d = false from by rw [okDev, or_no1 (R := okCli d.live && okCli d.saved && sameOwn d.live d.saved) hb0 (by simp only [sameOwn, ite_tt, ite_ff, gt_iff_lt, ge_iff_le, not_dlt, not_dle, bne_not, deq, decide_not, ne_eq, Bool.not_and, Bool.not_or, Bool.not_not, Bool.and_true, Bool.true_and, Bool.or_false, Bool.false_or, Int.toNat_natCast] <;> first | rfl | ac_rfl)]; rfl], ⟨⟩⟩
  · have hh : (okCli d.live && okCli d.saved && sameOwn d.live d.saved) = true := or_yes hb0 (by simp only [sameOwn, ite_tt, ite_ff, gt_iff_lt, ge_iff_le, not_dlt, not_dle, bne_not, deq, decide_not, ne_eq, Bool.not_and, Bool.not_or, Bool.not_not, Bool.and_true, Bool.true_and, Bool.or_false, Bool.false_or, Int.toNat_natCast] <;> first | rfl | ac_rfl)
    refine W.skip ?_
    refine W.seq ?_
    refine W.draw X [] [(83, ⟨false, [.a (.lit (.bool (d.saved.inbox == ((d.live.inbox.take (d.saved.inbox.length : Int).toNat).drop (0 : Int).toNat))))]⟩)] [2] [] 33 MO (by kernel_rfl) rfl (by (repeat' (first | with_reducible exact AllP.nil | with_reducible refine AllP.mk ?_ ?_ | with_reducible apply And.intro)) <;> skip; (iterate 1 (all_goals try (first | exact (c_spec_EqualLists d.saved.inbox ((d.live.inbox.take (d.saved.inbox.length : Int).toNat).drop (0 : Int).toNat)) | exact fun _ => (c_spec_EqualLists d.saved.inbox ((d.live.inbox.take (d.saved.inbox.length : Int).toNat).drop (0 : Int).toNat)) | exact fun _ _ => (c_spec_EqualLists d.saved.inbox ((d.live.inbox.take (d.saved.inbox.length : Int).toNat).drop (0 : Int).toNat))))); all_goals (first | (intros; omega) | exact rfl | exact El_all _ (by decide) | exact ⟨rfl, El_all _ (by decide)⟩ | ((intro h1; first | (intro h2; first | (intro h3; refine And.intro ?_ ?_) | refine And.intro ?_ ?_) | refine And.intro ?_ ?_) <;> first | omega | ((try simp only [nb, inr_t, inr_f] at *); (try simp (disch := omega) only [i64w]); omega)) | ((try simp only [nb, inr_t, inr_f] at *); (simp (disch := omega) only [i64w]); omega) | (refine fun _ => ?_; dsimp only [hyps, imps]; omega) | (refine fun _ _ => ?_; dsimp only [hyps, imps]; omega) | exact (u8w _).1 | exact (u8w _).2 | exact (u8n _).1 | exact (u8n _).2 | (simp only [byt, maxLen, lens]; omega) | (intros; simp only [nb] at *; omega))) ?_
    refine W.ret ?_
    exact Fin.ret rfl ⟨(congrArg Value.bool (by simp only [okDev, hh, preL, List.drop_zero, Int.toNat_zero, ite_tt, ite_ff, gt_iff_lt, ge_iff_le, not_dlt, not_dle, bne_not, deq, decide_not, ne_eq, Bool.not_and, Bool.not_or, Bool.not_not, Bool.and_true, Bool.true_and, Bool.or_false, Bool.false_or, Int.toNat_natCast] <;> first | rfl | ac_rfl)), ⟨⟩⟩
end Go.Proofs.Ytlocnjfgeifmnaa.G
namespace Go.Proofs.Ytlocnjfgeifmnaa.G
set_option linter.all false
open Go.RowKit L D
set_option maxRecDepth 100000
theorem c_impl_IsValidWorld (x : Wld) : Sound ty Try.prog 43 [.agg (dec_Wld x)] [.a (.lit (.bool (okW x)))] := by
  refine Sound.of X Try.call43 Try.func43 rfl rfl (by decide) Try.ntmps43 (by simp) ?_
  intro zb
  refine W.boundA 0 1 rfl rfl (fun hl1 => ?_)
  refine W.boundA 0 2 rfl rfl (fun hl2 => ?_)
  refine W.seq ?_
  refine W.reg X [] [] [1] [] rfl ⟨⟩ ?_
  refine W.seq ?_
  refine W.seq ?_
  refine W.draw X [] [(10, ⟨false, [.a (.lit (.bool (inr x.rows 1 64)))]⟩), (16, ⟨false, [.a (.lit (.bool (srvCnt (x.servers.length : Int))))]⟩), (23, ⟨false, [.a (.lit (.bool (inr (x.devices.length : Int) 2 8)))]⟩), (36, ⟨false, [.a (.lit (.bool (okArc x.archive)))]⟩), (50, ⟨false, [.a (.lit (.int .i64 (lastR x.archive)))]⟩), (58, ⟨false, [.a (.lit (.bool (okKey x.master)))]⟩), (64, ⟨false, [.a (.lit (.bool (inr x.round 0 100000)))]⟩)] [1, 71] [] 64 MO (by kernel_rfl) rfl (by (repeat' (first | with_reducible exact AllP.nil | with_reducible refine AllP.mk ?_ ?_ | with_reducible apply And.intro)) <;> skip; (iterate 7 (all_goals try (first | exact (c_impl_InRange x.rows 1 64) | exact fun _ => (c_impl_InRange x.rows 1 64) | exact fun _ _ => (c_impl_InRange x.rows 1 64) | exact (c_impl_isServerCount (x.servers.length : Int)) | exact fun _ => (c_impl_isServerCount (x.servers.length : Int)) | exact fun _ _ => (c_impl_isServerCount (x.servers.length : Int)) | exact (c_impl_InRange (x.devices.length : Int) 2 8) | exact fun _ => (c_impl_InRange (x.devices.length : Int) 2 8) | exact fun _ _ => (c_impl_InRange (x.devices.length : Int) 2 8) | exact (c_impl_IsValidArchive x.archive) | exact fun _ => (c_impl_IsValidArchive x.archive) | exact fun _ _ => (c_impl_IsValidArchive x.archive) | exact (c_impl_LastRound x.archive) | exact fun _ => (c_impl_LastRound x.archive) | exact fun _ _ => (c_impl_LastRound x.archive) | exact (c_impl_IsValidKey x.master) | exact fun _ => (c_impl_IsValidKey x.master) | exact fun _ _ => (c_impl_IsValidKey x.master) | exact (c_impl_InRange x.round 0 100000) | exact fun _ => (c_impl_InRange x.round 0 100000) | exact fun _ _ => (c_impl_InRange x.round 0 100000)))); all_goals (first | (intros; omega) | exact rfl | exact El_all _ (by decide) | exact ⟨rfl, El_all _ (by decide)⟩ | ((intro h1; first | (intro h2; first | (intro h3; refine And.intro ?_ ?_) | refine And.intro ?_ ?_) | refine And.intro ?_ ?_) <;> first | omega | ((try simp only [nb, inr_t, inr_f] at *); (try simp (disch := omega) only [i64w]); omega)) | ((try simp only [nb, inr_t, inr_f] at *); (simp (disch := omega) only [i64w]); omega) | (refine fun _ => ?_; dsimp only [hyps, imps]; omega) | (refine fun _ _ => ?_; dsimp only [hyps, imps]; omega) | exact (u8w _).1 | exact (u8w _).2 | exact (u8n _).1 | exact (u8n _).2 | (simp only [byt, maxLen, lens]; omega) | (intros; simp only [nb] at *; omega))) ?_
  refine W.cond rfl (fun hb0 => ?_) (fun hb0 => ?_)
  · skip
    refine W.seq ?_
    refine W.reg X [] [] [2] [] rfl ⟨⟩ ?_
    refine W.ret ?_
    exact Fin.ret rfl ⟨by rw [show okW x = false from by rw [okW, or_no1 (R := hdW x) hb0 (by simp only [hdW, ite_tt, ite_ff, gt_iff_lt, ge_iff_le, not_dlt, not_dle, bne_not, deq, decide_not, ne_eq, Bool.not_and, Bool.not_or, Bool.not_not, Bool.and_true, Bool.true_and, Bool.or_false, Bool.false_or, Int.toNat_natCast] <;> first | rfl | ac_rfl)]; rfl], ⟨⟩⟩
  · have hh : hdW x = true := or_yes hb0 (by simp only [hdW, ite_tt, ite_ff, gt_iff_lt, ge_iff_le, not_dlt, not_dle, bne_not, deq, decide_not, ne_eq, Bool.not_and, Bool.not_or, Bool.not_not, Bool.and_true, Bool.true_and, Bool.or_false, Bool.false_or, Int.toNat_natCast] <;> first | rfl | ac_rfl)
    obtain ⟨hev, hd8, _⟩ := hdW_dev hh
    refine W.skip ?_
    refine W.seq ?_
    refine W.seq ?_
    refine W.reg X [] [] [1, 73, 74, 75] [] rfl ⟨⟩ ?_
    refine W.block ?_
    refine W.loopO (fun k => k ≤ x.servers.length ∧ (List.range k).all (okS x) = true) (fun k : Nat => [(75, .one (.a (.lit (.int .i64 k))))]) (fun k => []) (fun k => x.servers.length - k) 0 (fun k => rfl) ⟨Nat.zero_le _, rfl⟩ rfl ?_
    rintro k ⟨hk, hall⟩
    refine W.seq ?_
    refine W.reg X [] [] [1, 73, 74, 75, 76] [] rfl ⟨⟩ ?_
    refine W.seq ?_
    refine W.cond rfl (fun hb1 => ?_) (fun hb1 => ?_)
    · try simp only [nb, inr_t, inr_f, isEmpty_t] at hb1
      refine W.skip ?_
      refine W.seq ?_
      refine W.block ?_
      refine W.seq ?_
      refine W.reg X [] [] [1, 3, 4, 73, 74, 75] [] rfl (by (repeat' (first | exact True.intro | apply And.intro)) <;> first | (intros; omega) | exact rfl | exact El_all _ (by decide) | exact ⟨rfl, El_all _ (by decide)⟩ | ((intro h1; first | (intro h2; first | (intro h3; refine And.intro ?_ ?_) | refine And.intro ?_ ?_) | refine And.intro ?_ ?_) <;> first | omega | ((try simp only [nb, inr_t, inr_f] at *); (try simp (disch := omega) only [i64w]); omega)) | ((try simp only [nb, inr_t, inr_f] at *); (simp (disch := omega) only [i64w]); omega) | (refine fun _ => ?_; dsimp only [hyps, imps]; omega) | (refine fun _ _ => ?_; dsimp only [hyps, imps]; omega) | exact (u8w _).1 | exact (u8w _).2 | exact (u8n _).1 | exact (u8n _).2 | (simp only [byt, maxLen, lens]; omega) | (intros; simp only [nb] at *; omega)) ?_
      refine W.seq ?_
      refine W.reg X [] [(81, ⟨false, [.a (.lit (.bool (okSrv (x.servers.getD k (dfl .Srv)))))]⟩)] [1, 73, 74, 75, 108] [] rfl (by (repeat' (first | with_reducible exact AllP.nil | with_reducible refine AllP.mk ?_ ?_ | with_reducible apply And.intro)) <;> skip; (iterate 1 (all_goals try (first | exact (c_impl_IsValidServer (x.servers.getD k (dfl .Srv))) | exact fun _ => (c_impl_IsValidServer (x.servers.getD k (dfl .Srv))) | exact fun _ _ => (c_impl_IsValidServer (x.servers.getD k (dfl .Srv)))))); all_goals (first | (intros; omega) | exact rfl | exact El_all _ (by decide) | exact ⟨rfl, El_all _ (by decide)⟩ | ((intro h1; first | (intro h2; first | (intro h3; refine And.intro ?_ ?_) | refine And.intro ?_ ?_) | refine And.intro ?_ ?_) <;> first | omega | ((try simp only [nb, inr_t, inr_f] at *); (try simp (disch := omega) only [i64w]); omega)) | ((try simp only [nb, inr_t, inr_f] at *); (simp (disch := omega) only [i64w]); omega) | (refine fun _ => ?_; dsimp only [hyps, imps]; omega) | (refine fun _ _ => ?_; dsimp only [hyps, imps]; omega) | exact (u8w _).1 | exact (u8w _).2 | exact (u8n _).1 | exact (u8n _).2 | (simp only [byt, maxLen, lens]; omega) | (intros; simp only [nb] at *; omega))) ?_
      refine W.cond rfl (fun hb2 => ?_) (fun hb2 => ?_)
      · have hk2 : okS x k = false := or_no1 hb2 (by simp only [okS, ite_tt, ite_ff, gt_iff_lt, ge_iff_le, not_dlt, not_dle, bne_not, deq, decide_not, ne_eq, Bool.not_and, Bool.not_or, Bool.not_not, Bool.and_true, Bool.true_and, Bool.or_false, Bool.false_or, Int.toNat_natCast] <;> first | rfl | ac_rfl)
        refine W.seq ?_
        refine W.reg X [] [] [2] [] rfl ⟨⟩ ?_
        refine W.ret ?_
        exact Fin.ret rfl ⟨by rw [show okW x = false from by rw [okW, range_no hb1 hk2]; simp], ⟨⟩⟩
      · have hk2 : okS x k = true := or_yes hb2 (by simp only [okS, ite_tt, ite_ff, gt_iff_lt, ge_iff_le, not_dlt, not_dle, bne_not, deq, decide_not, ne_eq, Bool.not_and, Bool.not_or, Bool.not_not, Bool.and_true, Bool.true_and, Bool.or_false, Bool.false_or, Int.toNat_natCast] <;> first | rfl | ac_rfl)
        refine W.skip ?_
        refine W.reg X [] [] [1, 73, 74, 75] [] rfl ⟨⟩ ?_
        refine ⟨k + 1, ⟨by omega, range_all hall hk2⟩, by omega, ?_⟩
        rw [wadd _ k rfl (by omega)]
        try rfl
    · try simp only [nb, inr_t, inr_f, isEmpty_t] at hb1
      have hall2 : (List.range x.servers.length).all (okS x) = true := by rw [show x.servers.length = k by omega]; exact hall
      refine W.exit ?_
      refine W.seq ?_
      refine W.seq ?_
      refine W.reg X [] [] [1, 111, 112, 113] [] rfl ⟨⟩ ?_
      refine W.block ?_
      refine W.loopO (fun k1 => k1 ≤ x.devices.length ∧ (List.range k1).all (okD x) = true) (fun k1 : Nat => [(113, .one (.a (.lit (.int .i64 k1))))]) (fun k1 => []) (fun k1 => x.devices.length - k1) 0 (fun k1 => rfl) ⟨Nat.zero_le _, rfl⟩ rfl ?_
      rintro k1 ⟨hk1, hall1⟩
      refine W.seq ?_
      refine W.reg X [] [] [1, 111, 112, 113, 114] [] rfl ⟨⟩ ?_
      refine W.seq ?_
      refine W.cond rfl (fun hb3 => ?_) (fun hb3 => ?_)
      · try simp only [nb, inr_t, inr_f, isEmpty_t] at hb3
        have hx := xorN k1 (by omega)
        have hlt := xor_lt k1 x.devices.length hb3 hev
        refine W.skip ?_
        refine W.seq ?_
        refine W.block ?_
        refine W.seq ?_
        refine W.reg X [] [] [1, 5, 6, 111, 112, 113] [] rfl (by (repeat' (first | exact True.intro | apply And.intro)) <;> first | (intros; omega) | exact rfl | exact El_all _ (by decide) | exact ⟨rfl, El_all _ (by decide)⟩ | ((intro h1; first | (intro h2; first | (intro h3; refine And.intro ?_ ?_) | refine And.intro ?_ ?_) | refine And.intro ?_ ?_) <;> first | omega | ((try simp only [nb, inr_t, inr_f] at *); (try simp (disch := omega) only [i64w]); omega)) | ((try simp only [nb, inr_t, inr_f] at *); (simp (disch := omega) only [i64w]); omega) | (refine fun _ => ?_; dsimp only [hyps, imps]; omega) | (refine fun _ _ => ?_; dsimp only [hyps, imps]; omega) | exact (u8w _).1 | exact (u8w _).2 | exact (u8n _).1 | exact (u8n _).2 | (simp only [byt, maxLen, lens]; omega) | (intros; simp only [nb] at *; omega)) ?_
        refine W.seq ?_
        refine W.reg X [] [] [1, 5, 6, 7, 111, 112, 113] [] rfl ⟨⟩ ?_
        refine W.seq ?_
        refine W.draw X [] [(121, ⟨false, [.a (.lit (.bool (okDev (x.devices.getD k1 (dfl .Dev)))))]⟩)] [1, 111, 112, 113, 155] [] 36 MO (by kernel_rfl) rfl (by (repeat' (first | with_reducible exact AllP.nil | with_reducible refine AllP.mk ?_ ?_ | with_reducible apply And.intro)) <;> skip; (iterate 1 (all_goals try (first | exact (c_impl_IsValidDevice (x.devices.getD k1 (dfl .Dev))) | exact fun _ => (c_impl_IsValidDevice (x.devices.getD k1 (dfl .Dev))) | exact fun _ _ => (c_impl_IsValidDevice (x.devices.getD k1 (dfl .Dev)))))); all_goals (first | (intros; omega) | exact rfl | exact El_all _ (by decide) | exact ⟨rfl, El_all _ (by decide)⟩ | ((intro h1; first | (intro h2; first | (intro h3; refine And.intro ?_ ?_) | refine And.intro ?_ ?_) | refine And.intro ?_ ?_) <;> first | omega | ((try simp only [nb, inr_t, inr_f] at *); (try simp (disch := omega) only [i64w]); omega)) | ((try simp only [nb, inr_t, inr_f] at *); (simp (disch := omega) only [i64w]); omega) | (refine fun _ => ?_; dsimp only [hyps, imps]; omega) | (refine fun _ _ => ?_; dsimp only [hyps, imps]; omega) | exact (u8w _).1 | exact (u8w _).2 | exact (u8n _).1 | exact (u8n _).2 | (simp only [byt, maxLen, lens]; omega) | (intros; simp only [nb] at *; omega))) ?_
        refine W.cond rfl (fun hb4 => ?_) (fun hb4 => ?_)
        · have hk3 : okD x k1 = false := or_no1 hb4 (by simp only [okD, hx, ite_tt, ite_ff, gt_iff_lt, ge_iff_le, not_dlt, not_dle, bne_not, deq, decide_not, ne_eq, Bool.not_and, Bool.not_or, Bool.not_not, Bool.and_true, Bool.true_and, Bool.or_false, Bool.false_or, Int.toNat_natCast] <;> first | rfl | ac_rfl)
          refine W.seq ?_
          refine W.reg X [] [] [2] [] rfl ⟨⟩ ?_
          refine W.ret ?_
          exact Fin.ret rfl ⟨by rw [show okW x = false from by rw [okW, range_no hb3 hk3]; simp], ⟨⟩⟩
        · have hk3 : okD x k1 = true := or_yes hb4 (by simp only [okD, hx, ite_tt, ite_ff, gt_iff_lt, ge_iff_le, not_dlt, not_dle, bne_not, deq, decide_not, ne_eq, Bool.not_and, Bool.not_or, Bool.not_not, Bool.and_true, Bool.true_and, Bool.or_false, Bool.false_or, Int.toNat_natCast] <;> first | rfl | ac_rfl)
          refine W.skip ?_
          refine W.reg X [] [] [1, 111, 112, 113] [] rfl ⟨⟩ ?_
          refine ⟨k1 + 1, ⟨by omega, range_all hall1 hk3⟩, by omega, ?_⟩
          rw [wadd _ k1 rfl (by omega)]
          try rfl
      · try simp only [nb, inr_t, inr_f, isEmpty_t] at hb3
        have hall3 : (List.range x.devices.length).all (okD x) = true := by rw [show x.devices.length = k1 by omega]; exact hall1
        refine W.exit ?_
        refine W.seq ?_
        refine W.reg X [] [] [2] [] rfl ⟨⟩ ?_
        refine W.ret ?_
        exact Fin.ret rfl ⟨by rw [okW, hh, hall2, hall3]; rfl, ⟨⟩⟩
theorem c_spec_l32Servers (x : Wld) : Sound ty Try.prog 66 [.agg (dec_Wld x)] [.a (.lit (.bool (svW x)))] := by
  refine Sound.of X Try.call66 Try.func66 rfl rfl (by decide) Try.ntmps66 (by simp) ?_
  intro zb
  refine W.boundA 0 1 rfl rfl (fun hl1 => ?_)
  refine W.boundA 0 2 rfl rfl (fun hl2 => ?_)
  refine W.seq ?_
  refine W.reg X [] [] [1] [] rfl ⟨⟩ ?_
  refine W.seq ?_
  refine W.seq ?_
  refine W.reg X [] [] [1, 3] [] rfl ⟨⟩ ?_
  refine W.block ?_
  refine W.loopO (fun k => k ≤ x.servers.length ∧ (List.range k).all (okS x) = true) (fun k : Nat => [(3, .one (.a (.lit (.int .i64 k))))]) (fun k => []) (fun k => x.servers.length - k) 0 (fun k => rfl) ⟨Nat.zero_le _, rfl⟩ rfl ?_
  rintro k ⟨hk, hall⟩
  refine W.seq ?_
  refine W.seq ?_
  refine W.reg X [] [] [1, 3, 9] [] rfl ⟨⟩ ?_
  refine W.cond rfl (fun hb0 => ?_) (fun hb0 => ?_)
  · try simp only [nb, inr_t, inr_f, isEmpty_t] at hb0
    refine W.skip ?_
    refine W.seq ?_
    refine W.block ?_
    refine W.seq ?_
    refine W.reg X [] [] [1, 3, 4] [] rfl (by (repeat' (first | exact True.intro | apply And.intro)) <;> first | (intros; omega) | exact rfl | exact El_all _ (by decide) | exact ⟨rfl, El_all _ (by decide)⟩ | ((intro h1; first | (intro h2; first | (intro h3; refine And.intro ?_ ?_) | refine And.intro ?_ ?_) | refine And.intro ?_ ?_) <;> first | omega | ((try simp only [nb, inr_t, inr_f] at *); (try simp (disch := omega) only [i64w]); omega)) | ((try simp only [nb, inr_t, inr_f] at *); (simp (disch := omega) only [i64w]); omega) | (refine fun _ => ?_; dsimp only [hyps, imps]; omega) | (refine fun _ _ => ?_; dsimp only [hyps, imps]; omega) | exact (u8w _).1 | exact (u8w _).2 | exact (u8n _).1 | exact (u8n _).2 | (simp only [byt, maxLen, lens]; omega) | (intros; simp only [nb] at *; omega)) ?_
    refine W.seq ?_
    refine W.reg X [] [(18, ⟨false, [.a (.lit (.bool (okSrv (x.servers.getD k (dfl .Srv)))))]⟩)] [1, 3, 45] [] rfl (by (repeat' (first | with_reducible exact AllP.nil | with_reducible refine AllP.mk ?_ ?_ | with_reducible apply And.intro)) <;> skip; (iterate 1 (all_goals try (first | exact (c_spec_IsValidServer (x.servers.getD k (dfl .Srv))) | exact fun _ => (c_spec_IsValidServer (x.servers.getD k (dfl .Srv))) | exact fun _ _ => (c_spec_IsValidServer (x.servers.getD k (dfl .Srv)))))); all_goals (first | (intros; omega) | exact rfl | exact El_all _ (by decide) | exact ⟨rfl, El_all _ (by decide)⟩ | ((intro h1; first | (intro h2; first | (intro h3; refine And.intro ?_ ?_) | refine And.intro ?_ ?_) | refine And.intro ?_ ?_) <;> first | omega | ((try simp only [nb, inr_t, inr_f] at *); (try simp (disch := omega) only [i64w]); omega)) | ((try simp only [nb, inr_t, inr_f] at *); (simp (disch := omega) only [i64w]); omega) | (refine fun _ => ?_; dsimp only [hyps, imps]; omega) | (refine fun _ _ => ?_; dsimp only [hyps, imps]; omega) | exact (u8w _).1 | exact (u8w _).2 | exact (u8n _).1 | exact (u8n _).2 | (simp only [byt, maxLen, lens]; omega) | (intros; simp only [nb] at *; omega))) ?_
    refine W.cond rfl (fun hb1 => ?_) (fun hb1 => ?_)
    · have hk2 : okS x k = false := or_no1 hb1 (by simp only [okS, ite_tt, ite_ff, gt_iff_lt, ge_iff_le, not_dlt, not_dle, bne_not, deq, decide_not, ne_eq, Bool.not_and, Bool.not_or, Bool.not_not, Bool.and_true, Bool.true_and, Bool.or_false, Bool.false_or, Int.toNat_natCast] <;> first | rfl | ac_rfl)
      refine W.seq ?_
      refine W.reg X [] [] [2] [] rfl ⟨⟩ ?_
      refine W.ret ?_
      exact Fin.ret rfl ⟨by rw [show svW x = false from by rw [svW, range_no hb0 hk2]; simp], ⟨⟩⟩
    · have hk2 : okS x k = true := or_yes hb1 (by simp only [okS, ite_tt, ite_ff, gt_iff_lt, ge_iff_le, not_dlt, not_dle, bne_not, deq, decide_not, ne_eq, Bool.not_and, Bool.not_or, Bool.not_not, Bool.and_true, Bool.true_and, Bool.or_false, Bool.false_or, Int.toNat_natCast] <;> first | rfl | ac_rfl)
      refine W.skip ?_
      refine W.reg X [] [] [1, 3] [] rfl ⟨⟩ ?_
      refine ⟨k + 1, ⟨by omega, range_all hall hk2⟩, by omega, ?_⟩
      rw [wadd _ k rfl (by omega)]
      try rfl
  · try simp only [nb, inr_t, inr_f, isEmpty_t] at hb0
    have hall2 : (List.range x.servers.length).all (okS x) = true := by rw [show x.servers.length = k by omega]; exact hall
    refine W.exit ?_
    refine W.seq ?_
    refine W.reg X [] [(49, ⟨false, [.a (.lit (.bool _))]⟩)] [2] [] rfl (by (repeat' (first | with_reducible exact AllP.nil | with_reducible refine AllP.mk ?_ ?_ | with_reducible apply And.intro)) <;> skip; (iterate 1 (all_goals try (first | exact (c_spec_l7Count _) | exact fun _ => (c_spec_l7Count _) | exact fun _ _ => (c_spec_l7Count _)))); all_goals (first | (intros; omega) | exact rfl | exact El_all _ (by decide) | exact ⟨rfl, El_all _ (by decide)⟩ | ((intro h1; first | (intro h2; first | (intro h3; refine And.intro ?_ ?_) | refine And.intro ?_ ?_) | refine And.intro ?_ ?_) <;> first | omega | ((try simp only [nb, inr_t, inr_f] at *); (try simp (disch := omega) only [i64w]); omega)) | ((try simp only [nb, inr_t, inr_f] at *); (simp (disch := omega) only [i64w]); omega) | (refine fun _ => ?_; dsimp only [hyps, imps]; omega) | (refine fun _ _ => ?_; dsimp only [hyps, imps]; omega) | exact (u8w _).1 | exact (u8w _).2 | exact (u8n _).1 | exact (u8n _).2 | (simp only [byt, maxLen, lens]; omega) | (intros; simp only [nb] at *; omega))) ?_
    refine W.ret ?_
    exact Fin.ret rfl ⟨by rw [svW, hall2]; rfl, ⟨⟩⟩
theorem c_spec_l32Devices (x : Wld) : Sound ty Try.prog 67 [.agg (dec_Wld x)] [.a (.lit (.bool (dvW x)))] := by
  refine Sound.of X Try.call67 Try.func67 rfl rfl (by decide) Try.ntmps67 (by simp) ?_
  intro zb
  refine W.boundA 0 1 rfl rfl (fun hl1 => ?_)
  refine W.boundA 0 2 rfl rfl (fun hl2 => ?_)
  refine W.seq ?_
  refine W.reg X [] [] [1] [] rfl ⟨⟩ ?_
  refine W.seq ?_
  refine W.reg X [] [] [1, 3] [] rfl ⟨⟩ ?_
  refine W.seq ?_
  refine W.seq ?_
  refine W.reg X [] [(14, ⟨false, [.a (.lit (.bool (inr (x.devices.length : Int) 2 8)))]⟩)] [1, 3, 16] [] rfl (by (repeat' (first | with_reducible exact AllP.nil | with_reducible refine AllP.mk ?_ ?_ | with_reducible apply And.intro)) <;> skip; (iterate 1 (all_goals try (first | exact (c_spec_l1In (x.devices.length : Int) 2 8) | exact fun _ => (c_spec_l1In (x.devices.length : Int) 2 8) | exact fun _ _ => (c_spec_l1In (x.devices.length : Int) 2 8)))); all_goals (first | (intros; omega) | exact rfl | exact El_all _ (by decide) | exact ⟨rfl, El_all _ (by decide)⟩ | ((intro h1; first | (intro h2; first | (intro h3; refine And.intro ?_ ?_) | refine And.intro ?_ ?_) | refine And.intro ?_ ?_) <;> first | omega | ((try simp only [nb, inr_t, inr_f] at *); (try simp (disch := omega) only [i64w]); omega)) | ((try simp only [nb, inr_t, inr_f] at *); (simp (disch := omega) only [i64w]); omega) | (refine fun _ => ?_; dsimp only [hyps, imps]; omega) | (refine fun _ _ => ?_; dsimp only [hyps, imps]; omega) | exact (u8w _).1 | exact (u8w _).2 | exact (u8n _).1 | exact (u8n _).2 | (simp only [byt, maxLen, lens]; omega) | (intros; simp only [nb] at *; omega))) ?_
  refine W.cond rfl (fun hb0 => ?_) (fun hb0 => ?_)
  · skip
    refine W.seq ?_
    refine W.reg X [] [] [2] [] rfl ⟨⟩ ?_
    refine W.ret ?_
    exact Fin.ret rfl ⟨by rw [show dvW x = false from by rw [dvW, or_no1 (R := ((x.devices.length : Int).tmod 2 == 0) && inr x.devices.length 2 8) hb0 (by simp only [ite_tt, ite_ff, gt_iff_lt, ge_iff_le, not_dlt, not_dle, bne_not, deq, decide_not, ne_eq, Bool.not_and, Bool.not_or, Bool.not_not, Bool.and_true, Bool.true_and, Bool.or_false, Bool.false_or, Int.toNat_natCast] <;> first | rfl | ac_rfl)]; rfl], ⟨⟩⟩
  · have hh : (((x.devices.length : Int).tmod 2 == 0) && inr x.devices.length 2 8) = true := or_yes hb0 (by simp only [ite_tt, ite_ff, gt_iff_lt, ge_iff_le, not_dlt, not_dle, bne_not, deq, decide_not, ne_eq, Bool.not_and, Bool.not_or, Bool.not_not, Bool.and_true, Bool.true_and, Bool.or_false, Bool.false_or, Int.toNat_natCast] <;> first | rfl | ac_rfl)
    have hev : x.devices.length % 2 = 0 := by simp only [Bool.and_eq_true, beq_iff_eq] at hh; have := hh.1; rw [tmod_pos (by omega)] at this; omega
    have hd8 : x.devices.length ≤ 8 := by simp only [Bool.and_eq_true, inr_t] at hh; omega
    refine W.skip ?_
    refine W.seq ?_
    refine W.seq ?_
    refine W.reg X [] [] [1, 3, 4] [] rfl ⟨⟩ ?_
    refine W.block ?_
    refine W.loopO (fun k => k ≤ x.devices.length ∧ (List.range k).all (okD x) = true) (fun k : Nat => [(4, .one (.a (.lit (.int .i64 k))))]) (fun k => []) (fun k => x.devices.length - k) 0 (fun k => rfl) ⟨Nat.zero_le _, rfl⟩ rfl ?_
    rintro k ⟨hk, hall⟩
    refine W.seq ?_
    refine W.seq ?_
    refine W.reg X [] [] [1, 3, 4, 19] [] rfl ⟨⟩ ?_
    refine W.cond rfl (fun hb1 => ?_) (fun hb1 => ?_)
    · try simp only [nb, inr_t, inr_f, isEmpty_t] at hb1
      have hx := xorN k (by omega)
      have hlt := xor_lt k x.devices.length hb1 hev
      refine W.skip ?_
      refine W.seq ?_
      refine W.block ?_
      refine W.seq ?_
      refine W.reg X [] [] [1, 3, 4, 5] [] rfl (by (repeat' (first | exact True.intro | apply And.intro)) <;> first | (intros; omega) | exact rfl | exact El_all _ (by decide) | exact ⟨rfl, El_all _ (by decide)⟩ | ((intro h1; first | (intro h2; first | (intro h3; refine And.intro ?_ ?_) | refine And.intro ?_ ?_) | refine And.intro ?_ ?_) <;> first | omega | ((try simp only [nb, inr_t, inr_f] at *); (try simp (disch := omega) only [i64w]); omega)) | ((try simp only [nb, inr_t, inr_f] at *); (simp (disch := omega) only [i64w]); omega) | (refine fun _ => ?_; dsimp only [hyps, imps]; omega) | (refine fun _ _ => ?_; dsimp only [hyps, imps]; omega) | exact (u8w _).1 | exact (u8w _).2 | exact (u8n _).1 | exact (u8n _).2 | (simp only [byt, maxLen, lens]; omega) | (intros; simp only [nb] at *; omega)) ?_
      refine W.seq ?_
      refine W.draw X [] [(28, ⟨false, [.a (.lit (.bool (okDev (x.devices.getD k (dfl .Dev)))))]⟩)] [1, 3, 4, 66] [] 40 MO (by kernel_rfl) rfl (by (repeat' (first | with_reducible exact AllP.nil | with_reducible refine AllP.mk ?_ ?_ | with_reducible apply And.intro)) <;> skip; (iterate 1 (all_goals try (first | exact (c_spec_IsValidDevice (x.devices.getD k (dfl .Dev))) | exact fun _ => (c_spec_IsValidDevice (x.devices.getD k (dfl .Dev))) | exact fun _ _ => (c_spec_IsValidDevice (x.devices.getD k (dfl .Dev)))))); all_goals (first | (intros; omega) | exact rfl | exact El_all _ (by decide) | exact ⟨rfl, El_all _ (by decide)⟩ | ((intro h1; first | (intro h2; first | (intro h3; refine And.intro ?_ ?_) | refine And.intro ?_ ?_) | refine And.intro ?_ ?_) <;> first | omega | ((try simp only [nb, inr_t, inr_f] at *); (try simp (disch := omega) only [i64w]); omega)) | ((try simp only [nb, inr_t, inr_f] at *); (simp (disch := omega) only [i64w]); omega) | (refine fun _ => ?_; dsimp only [hyps, imps]; omega) | (refine fun _ _ => ?_; dsimp only [hyps, imps]; omega) | exact (u8w _).1 | exact (u8w _).2 | exact (u8n _).1 | exact (u8n _).2 | (simp only [byt, maxLen, lens]; omega) | (intros; simp only [nb] at *; omega))) ?_
      refine W.cond rfl (fun hb2 => ?_) (fun hb2 => ?_)
      · have hk3 : okD x k = false := or_no1 hb2 (by simp only [okD, hx, ite_tt, ite_ff, gt_iff_lt, ge_iff_le, not_dlt, not_dle, bne_not, deq, decide_not, ne_eq, Bool.not_and, Bool.not_or, Bool.not_not, Bool.and_true, Bool.true_and, Bool.or_false, Bool.false_or, Int.toNat_natCast] <;> first | rfl | ac_rfl)
        refine W.seq ?_
        refine W.reg X [] [] [2] [] rfl ⟨⟩ ?_
        refine W.ret ?_
        exact Fin.ret rfl ⟨by rw [show dvW x = false from by rw [dvW, range_no hb1 hk3]; simp], ⟨⟩⟩
      · have hk3 : okD x k = true := or_yes hb2 (by simp only [okD, hx, ite_tt, ite_ff, gt_iff_lt, ge_iff_le, not_dlt, not_dle, bne_not, deq, decide_not, ne_eq, Bool.not_and, Bool.not_or, Bool.not_not, Bool.and_true, Bool.true_and, Bool.or_false, Bool.false_or, Int.toNat_natCast] <;> first | rfl | ac_rfl)
        refine W.skip ?_
        refine W.reg X [] [] [1, 3, 4] [] rfl ⟨⟩ ?_
        refine ⟨k + 1, ⟨by omega, range_all hall hk3⟩, by omega, ?_⟩
        rw [wadd _ k rfl (by omega)]
        try rfl
    · try simp only [nb, inr_t, inr_f, isEmpty_t] at hb1
      have hall3 : (List.range x.devices.length).all (okD x) = true := by rw [show x.devices.length = k by omega]; exact hall
      refine W.exit ?_
      refine W.seq ?_
      refine W.reg X [] [] [2] [] rfl ⟨⟩ ?_
      refine W.ret ?_
      exact Fin.ret rfl ⟨by rw [dvW, hh, hall3]; rfl, ⟨⟩⟩
theorem c_spec_IsValidWorld (x : Wld) : Sound ty Try.prog 40 [.agg (dec_Wld x)] [.a (.lit (.bool (okW x)))] := by
  refine Sound.of X Try.call40 Try.func40 rfl rfl (by decide) Try.ntmps40 (by simp) ?_
  intro zb
  refine W.seq ?_
  refine W.reg X [] [] [1] [] rfl ⟨⟩ ?_
  refine W.seq ?_
  refine W.draw X [] [(5, ⟨false, [.a (.lit (.bool (inr x.rows 1 64)))]⟩), (9, ⟨false, [.a (.lit (.bool (inr x.round 0 100000)))]⟩), (13, ⟨false, [.a (.lit (.bool (svW x)))]⟩), (17, ⟨false, [.a (.lit (.bool (dvW x)))]⟩), (22, ⟨false, [.a (.lit (.bool (okArc x.archive)))]⟩), (35, ⟨false, [.a (.lit (.int .i64 (lastR x.archive)))]⟩), (43, ⟨false, [.a (.lit (.bool (okKey x.master)))]⟩)] [2] [] 48 MO (by kernel_rfl) rfl (by (repeat' (first | with_reducible exact AllP.nil | with_reducible refine AllP.mk ?_ ?_ | with_reducible apply And.intro)) <;> skip; (iterate 7 (all_goals try (first | exact (c_spec_l1In x.rows 1 64) | exact fun _ => (c_spec_l1In x.rows 1 64) | exact fun _ _ => (c_spec_l1In x.rows 1 64) | exact (c_spec_l1In x.round 0 100000) | exact fun _ => (c_spec_l1In x.round 0 100000) | exact fun _ _ => (c_spec_l1In x.round 0 100000) | exact (c_spec_l32Servers x) | exact fun _ => (c_spec_l32Servers x) | exact fun _ _ => (c_spec_l32Servers x) | exact (c_spec_l32Devices x) | exact fun _ => (c_spec_l32Devices x) | exact fun _ _ => (c_spec_l32Devices x) | exact (c_spec_IsValidArchive x.archive) | exact fun _ => (c_spec_IsValidArchive x.archive) | exact fun _ _ => (c_spec_IsValidArchive x.archive) | exact (c_spec_LastRound x.archive) | exact fun _ => (c_spec_LastRound x.archive) | exact fun _ _ => (c_spec_LastRound x.archive) | exact (c_spec_IsValidKey x.master) | exact fun _ => (c_spec_IsValidKey x.master) | exact fun _ _ => (c_spec_IsValidKey x.master)))); all_goals (first | (intros; omega) | exact rfl | exact El_all _ (by decide) | exact ⟨rfl, El_all _ (by decide)⟩ | ((intro h1; first | (intro h2; first | (intro h3; refine And.intro ?_ ?_) | refine And.intro ?_ ?_) | refine And.intro ?_ ?_) <;> first | omega | ((try simp only [nb, inr_t, inr_f] at *); (try simp (disch := omega) only [i64w]); omega)) | ((try simp only [nb, inr_t, inr_f] at *); (simp (disch := omega) only [i64w]); omega) | (refine fun _ => ?_; dsimp only [hyps, imps]; omega) | (refine fun _ _ => ?_; dsimp only [hyps, imps]; omega) | exact (u8w _).1 | exact (u8w _).2 | exact (u8n _).1 | exact (u8n _).2 | (simp only [byt, maxLen, lens]; omega) | (intros; simp only [nb] at *; omega))) ?_
  refine W.ret ?_
  exact Fin.ret rfl ⟨(congrArg Value.bool (by simp only [okW, hdW, svW, dvW, ite_tt, ite_ff, gt_iff_lt, ge_iff_le, not_dlt, not_dle, bne_not, deq, decide_not, ne_eq, Bool.not_and, Bool.not_or, Bool.not_not, Bool.and_true, Bool.true_and, Bool.or_false, Bool.false_or, Int.toNat_natCast] <;> first | rfl | ac_rfl)), ⟨⟩⟩
theorem c_impl_hasClient (x : Wld) (c : Int) : Sound ty Try.prog 44 [.agg (dec_Wld x), .a (.lit (.int .i64 c))] [.a (.lit (.bool (hasC x c)))] := by
  refine Sound.of X Try.call44 Try.func44 rfl rfl (by decide) Try.ntmps44 (by simp) ?_
  intro zb
  refine W.boundA 0 2 rfl rfl (fun hl2 => ?_)
  refine W.seq ?_
  refine W.reg X [] [] [1, 2] [] rfl ⟨⟩ ?_
  refine W.seq ?_
  refine W.reg X [] [(10, ⟨false, [.a (.lit (.bool _))]⟩)] [4] [] rfl (by (repeat' (first | with_reducible exact AllP.nil | with_reducible refine AllP.mk ?_ ?_ | with_reducible apply And.intro)) <;> skip; (iterate 1 (all_goals try (first | exact (c_impl_InRange _ _ _) | exact fun _ => (c_impl_InRange _ _ _) | exact fun _ _ => (c_impl_InRange _ _ _)))); all_goals (first | (intros; omega) | exact rfl | exact El_all _ (by decide) | exact ⟨rfl, El_all _ (by decide)⟩ | ((intro h1; first | (intro h2; first | (intro h3; refine And.intro ?_ ?_) | refine And.intro ?_ ?_) | refine And.intro ?_ ?_) <;> first | omega | ((try simp only [nb, inr_t, inr_f] at *); (try simp (disch := omega) only [i64w]); omega)) | ((try simp only [nb, inr_t, inr_f] at *); (simp (disch := omega) only [i64w]); omega) | (refine fun _ => ?_; dsimp only [hyps, imps]; omega) | (refine fun _ _ => ?_; dsimp only [hyps, imps]; omega) | exact (u8w _).1 | exact (u8w _).2 | exact (u8n _).1 | exact (u8n _).2 | (simp only [byt, maxLen, lens]; omega) | (intros; simp only [nb] at *; omega))) ?_
  refine W.ret ?_
  exact Fin.ret rfl ⟨by rw [i64w (by omega)]; rfl, ⟨⟩⟩
end Go.Proofs.Ytlocnjfgeifmnaa.G
namespace Go.Proofs.Ytlocnjfgeifmnaa.G
set_option linter.all false
open Go.RowKit L D
set_option maxRecDepth 100000
theorem c_impl_LinkableRows (x : Wld) (c f m : Int) (hm : -9223372036854775808 ≤ m) : Sound ty Try.prog 15 [.agg (dec_Wld x), .a (.lit (.int .i64 c)), .a (.lit (.int .i64 f)), .a (.lit (.int .i64 m))] [.a (.lit (.int .i64 (linkable x c f m)))] := by
  refine Sound.of X Try.call15 Try.func15 rfl rfl (by decide) Try.ntmps15 (by simp) ?_
  intro zb
  refine W.boundA 0 2 rfl rfl (fun hl2 => ?_)
  have hmi := mini_le m 100
  refine W.seq ?_
  refine W.reg X [] [] [1, 2, 3, 4] [] rfl ⟨⟩ ?_
  refine W.seq ?_
  refine W.seq ?_
  refine W.reg X [] [(13, ⟨false, [.a (.lit (.bool (okW x)))]⟩), (18, ⟨false, [.a (.lit (.bool (hasC x c)))]⟩), (23, ⟨false, [.a (.lit (.bool (inr f 0 100000)))]⟩)] [1, 2, 3, 4, 25] [] rfl (by (repeat' (first | with_reducible exact AllP.nil | with_reducible refine AllP.mk ?_ ?_ | with_reducible apply And.intro)) <;> skip; (iterate 3 (all_goals try (first | exact (c_impl_IsValidWorld x) | exact fun _ => (c_impl_IsValidWorld x) | exact fun _ _ => (c_impl_IsValidWorld x) | exact (c_impl_hasClient x c) | exact fun _ => (c_impl_hasClient x c) | exact fun _ _ => (c_impl_hasClient x c) | exact (c_impl_InRange f 0 100000) | exact fun _ => (c_impl_InRange f 0 100000) | exact fun _ _ => (c_impl_InRange f 0 100000)))); all_goals (first | (intros; omega) | exact rfl | exact El_all _ (by decide) | exact ⟨rfl, El_all _ (by decide)⟩ | ((intro h1; first | (intro h2; first | (intro h3; refine And.intro ?_ ?_) | refine And.intro ?_ ?_) | refine And.intro ?_ ?_) <;> first | omega | ((try simp only [nb, inr_t, inr_f] at *); (try simp (disch := omega) only [i64w]); omega)) | ((try simp only [nb, inr_t, inr_f] at *); (simp (disch := omega) only [i64w]); omega) | (refine fun _ => ?_; dsimp only [hyps, imps]; omega) | (refine fun _ _ => ?_; dsimp only [hyps, imps]; omega) | exact (u8w _).1 | exact (u8w _).2 | exact (u8n _).1 | exact (u8n _).2 | (simp only [byt, maxLen, lens]; omega) | (intros; simp only [nb] at *; omega))) ?_
  refine W.cond rfl (fun hb0 => ?_) (fun hb0 => ?_)
  · have hk0 : lnOK x c f = false := or_no1 hb0 (by simp only [lnOK, ite_tt, ite_ff, gt_iff_lt, ge_iff_le, not_dlt, not_dle, bne_not, deq, decide_not, ne_eq, Bool.not_and, Bool.not_or, Bool.not_not, Bool.and_true, Bool.true_and, Bool.or_false, Bool.false_or, Int.toNat_natCast] <;> first | rfl | ac_rfl)
    refine W.seq ?_
    refine W.reg X [] [] [8] [] rfl ⟨⟩ ?_
    refine W.ret ?_
    exact Fin.ret rfl ⟨by rw [linkable, if_neg (by rw [hk0]; decide)], ⟨⟩⟩
  · have hk0 : lnOK x c f = true := or_yes hb0 (by simp only [lnOK, ite_tt, ite_ff, gt_iff_lt, ge_iff_le, not_dlt, not_dle, bne_not, deq, decide_not, ne_eq, Bool.not_and, Bool.not_or, Bool.not_not, Bool.and_true, Bool.true_and, Bool.or_false, Bool.false_or, Int.toNat_natCast] <;> first | rfl | ac_rfl)
    have hcf := lnOK_c hk0
    refine W.skip ?_
    refine W.seq ?_
    refine W.reg X [] [] [2, 3, 4, 9] [] rfl (by (repeat' (first | exact True.intro | apply And.intro)) <;> first | (intros; omega) | exact rfl | exact El_all _ (by decide) | exact ⟨rfl, El_all _ (by decide)⟩ | ((intro h1; first | (intro h2; first | (intro h3; refine And.intro ?_ ?_) | refine And.intro ?_ ?_) | refine And.intro ?_ ?_) <;> first | omega | ((try simp only [nb, inr_t, inr_f] at *); (try simp (disch := omega) only [i64w]); omega)) | ((try simp only [nb, inr_t, inr_f] at *); (simp (disch := omega) only [i64w]); omega) | (refine fun _ => ?_; dsimp only [hyps, imps]; omega) | (refine fun _ _ => ?_; dsimp only [hyps, imps]; omega) | exact (u8w _).1 | exact (u8w _).2 | exact (u8n _).1 | exact (u8n _).2 | (simp only [byt, maxLen, lens]; omega) | (intros; simp only [nb] at *; omega)) ?_
    refine W.seq ?_
    refine W.reg X [] [] [2, 3, 4, 9, 10] [] rfl ⟨⟩ ?_
    refine W.seq ?_
    refine W.seq ?_
    refine W.reg X [] [] [2, 3, 4, 9, 10, 11] [] rfl ⟨⟩ ?_
    refine W.block ?_
    refine W.loopO (fun k => k ≤ (mini m 100 - 1).toNat) (fun k : Nat => [(10, .one (.a (.lit (.int .i64 ((lk (x.devices.getD c.toNat (dfl .Dev)).live.key f x.rows k : Nat) : Int))))), (11, .one (.a (.lit (.int .i64 (f + ((k + 1 : Nat) : Int))))))]) (fun k => []) (fun k => (mini m 100 - 1).toNat - k) 0 (fun k => rfl) (Nat.zero_le _) (by rw [i64w (a := f + 1) (by omega)]; rfl) ?_
    intro k hk
    have hle := lk_le (x.devices.getD c.toNat (dfl .Dev)).live.key f x.rows k
    have hw1 : IntKind.i64.wrap (f + ((k + 1 : Nat) : Int)) = f + ((k + 1 : Nat) : Int) := i64w (by omega)
    have hw2 : IntKind.i64.wrap (f + ((k + 1 : Nat) : Int) - 1) = f + (k : Int) := by rw [i64w (by omega)]; omega
    refine W.seq ?_
    refine W.seq ?_
    refine W.reg X [] [] [2, 3, 4, 9, 10, 11, 40] [] rfl (by (repeat' (first | exact True.intro | apply And.intro)) <;> first | (intros; omega) | exact rfl | exact El_all _ (by decide) | exact ⟨rfl, El_all _ (by decide)⟩ | ((intro h1; first | (intro h2; first | (intro h3; refine And.intro ?_ ?_) | refine And.intro ?_ ?_) | refine And.intro ?_ ?_) <;> first | omega | ((try simp only [nb, inr_t, inr_f] at *); (try simp (disch := omega) only [i64w]); omega)) | ((try simp only [nb, inr_t, inr_f] at *); (simp (disch := omega) only [i64w]); omega) | (refine fun _ => ?_; dsimp only [hyps, imps]; omega) | (refine fun _ _ => ?_; dsimp only [hyps, imps]; omega) | exact (u8w _).1 | exact (u8w _).2 | exact (u8n _).1 | exact (u8n _).2 | (simp only [byt, maxLen, lens]; omega) | (intros; simp only [nb] at *; omega)) ?_
    refine W.cond rfl (fun hb1 => ?_) (fun hb1 => ?_)
    · try simp only [nb, inr_t, inr_f, isEmpty_t] at hb1
      rw [i64w (by omega)] at hb1
      refine W.skip ?_
      refine W.seq ?_
      refine W.block ?_
      refine W.seq ?_
      refine W.draw X [] [(47, ⟨false, [.a (.lit (.int .i64 (mrow ((x.devices.getD c.toNat (dfl .Dev)).live.key) (f + ((k + 1 : Nat) : Int)) 0 x.rows)))]⟩), (53, ⟨false, [.a (.lit (.int .i64 (mrow ((x.devices.getD c.toNat (dfl .Dev)).live.key) (IntKind.i64.wrap ((f + ((k + 1 : Nat) : Int)) - 1)) 0 x.rows)))]⟩)] [2, 3, 4, 9, 10, 11, 54] [] 12 MO (by kernel_rfl) rfl (by (repeat' (first | with_reducible exact AllP.nil | with_reducible refine AllP.mk ?_ ?_ | with_reducible apply And.intro)) <;> skip; (iterate 2 (all_goals try (first | exact (c_impl_MailboxRow ((x.devices.getD c.toNat (dfl .Dev)).live.key) (f + ((k + 1 : Nat) : Int)) 0 x.rows) | exact fun _ => (c_impl_MailboxRow ((x.devices.getD c.toNat (dfl .Dev)).live.key) (f + ((k + 1 : Nat) : Int)) 0 x.rows) | exact fun _ _ => (c_impl_MailboxRow ((x.devices.getD c.toNat (dfl .Dev)).live.key) (f + ((k + 1 : Nat) : Int)) 0 x.rows) | exact (c_impl_MailboxRow ((x.devices.getD c.toNat (dfl .Dev)).live.key) (IntKind.i64.wrap ((f + ((k + 1 : Nat) : Int)) - 1)) 0 x.rows) | exact fun _ => (c_impl_MailboxRow ((x.devices.getD c.toNat (dfl .Dev)).live.key) (IntKind.i64.wrap ((f + ((k + 1 : Nat) : Int)) - 1)) 0 x.rows) | exact fun _ _ => (c_impl_MailboxRow ((x.devices.getD c.toNat (dfl .Dev)).live.key) (IntKind.i64.wrap ((f + ((k + 1 : Nat) : Int)) - 1)) 0 x.rows)))); all_goals (first | (intros; omega) | exact rfl | exact El_all _ (by decide) | exact ⟨rfl, El_all _ (by decide)⟩ | ((intro h1; first | (intro h2; first | (intro h3; refine And.intro ?_ ?_) | refine And.intro ?_ ?_) | refine And.intro ?_ ?_) <;> first | omega | ((try simp only [nb, inr_t, inr_f] at *); (try simp (disch := omega) only [i64w]); omega)) | ((try simp only [nb, inr_t, inr_f] at *); (simp (disch := omega) only [i64w]); omega) | (refine fun _ => ?_; dsimp only [hyps, imps]; omega) | (refine fun _ _ => ?_; dsimp only [hyps, imps]; omega) | exact (u8w _).1 | exact (u8w _).2 | exact (u8n _).1 | exact (u8n _).2 | (simp only [byt, maxLen, lens]; omega) | (intros; simp only [nb] at *; omega))) ?_
      refine W.cond rfl (fun hb2 => ?_) (fun hb2 => ?_)
      · try simp only [nb, inr_t, inr_f, isEmpty_t] at hb2
        rw [hw2] at hb2
        have hs := lk_hit hb2
        refine W.reg X [] [] [2, 3, 4, 9, 10, 11] [] rfl ⟨⟩ ?_
        refine W.reg X [] [] [2, 3, 4, 9, 10, 11] [] rfl ⟨⟩ ?_
        refine ⟨k + 1, by omega, by omega, ?_⟩
        rw [i64w (a := f + ((k + 1 : Nat) : Int) + 1) (by omega), show f + ((k + 1 : Nat) : Int) + 1 = f + ((k + 1 + 1 : Nat) : Int) by omega, wadd _ (lk (x.devices.getD c.toNat (dfl .Dev)).live.key f x.rows k) rfl (by omega), hs]
        try rfl
      · try simp only [nb, inr_t, inr_f, isEmpty_t] at hb2
        rw [hw2] at hb2
        have hs := lk_miss hb2
        refine W.skip ?_
        refine W.reg X [] [] [2, 3, 4, 9, 10, 11] [] rfl ⟨⟩ ?_
        refine ⟨k + 1, by omega, by omega, ?_⟩
        rw [i64w (a := f + ((k + 1 : Nat) : Int) + 1) (by omega), show f + ((k + 1 : Nat) : Int) + 1 = f + ((k + 1 + 1 : Nat) : Int) by omega, hs]
        try rfl
    · try simp only [nb, inr_t, inr_f, isEmpty_t] at hb1
      rw [i64w (by omega)] at hb1
      refine W.exit ?_
      refine W.seq ?_
      refine W.reg X [] [] [8] [] rfl ⟨⟩ ?_
      refine W.ret ?_
      exact Fin.ret rfl ⟨by rw [linkable, if_pos hk0, show k = (mini m 100 - 1).toNat by omega], ⟨⟩⟩
theorem c_spec_LinkableRows (x : Wld) (c f m : Int) (hm : -9223372036854775808 ≤ m) : Sound ty Try.prog 14 [.agg (dec_Wld x), .a (.lit (.int .i64 c)), .a (.lit (.int .i64 f)), .a (.lit (.int .i64 m))] [.a (.lit (.int .i64 (linkable x c f m)))] := by
  refine Sound.of X Try.call14 Try.func14 rfl rfl (by decide) Try.ntmps14 (by simp) ?_
  intro zb
  refine W.boundA 0 2 rfl rfl (fun hl2 => ?_)
  have hmi := mini_le m 100
  have hww : IntKind.i64.wrap ((x.devices.length : Int) - 1) = x.devices.length - 1 := i64w (by omega)
  refine W.seq ?_
  refine W.reg X [] [] [1, 2, 3, 4] [] rfl ⟨⟩ ?_
  refine W.seq ?_
  refine W.reg X [] [] [1, 2, 3, 4, 9] [] rfl ⟨⟩ ?_
  refine W.seq ?_
  refine W.seq ?_
  refine W.reg X [] [(13, ⟨false, [.a (.lit (.bool (okW x)))]⟩), (21, ⟨false, [.a (.lit (.bool (inr c 0 (IntKind.i64.wrap ((x.devices.length : Int) - 1)))))]⟩), (26, ⟨false, [.a (.lit (.bool (inr f 0 100000)))]⟩)] [1, 2, 3, 4, 9, 28] [] rfl (by (repeat' (first | with_reducible exact AllP.nil | with_reducible refine AllP.mk ?_ ?_ | with_reducible apply And.intro)) <;> skip; (iterate 3 (all_goals try (first | exact (c_spec_IsValidWorld x) | exact fun _ => (c_spec_IsValidWorld x) | exact fun _ _ => (c_spec_IsValidWorld x) | exact (c_spec_l1In c 0 (IntKind.i64.wrap ((x.devices.length : Int) - 1))) | exact fun _ => (c_spec_l1In c 0 (IntKind.i64.wrap ((x.devices.length : Int) - 1))) | exact fun _ _ => (c_spec_l1In c 0 (IntKind.i64.wrap ((x.devices.length : Int) - 1))) | exact (c_spec_l1In f 0 100000) | exact fun _ => (c_spec_l1In f 0 100000) | exact fun _ _ => (c_spec_l1In f 0 100000)))); all_goals (first | (intros; omega) | exact rfl | exact El_all _ (by decide) | exact ⟨rfl, El_all _ (by decide)⟩ | ((intro h1; first | (intro h2; first | (intro h3; refine And.intro ?_ ?_) | refine And.intro ?_ ?_) | refine And.intro ?_ ?_) <;> first | omega | ((try simp only [nb, inr_t, inr_f] at *); (try simp (disch := omega) only [i64w]); omega)) | ((try simp only [nb, inr_t, inr_f] at *); (simp (disch := omega) only [i64w]); omega) | (refine fun _ => ?_; dsimp only [hyps, imps]; omega) | (refine fun _ _ => ?_; dsimp only [hyps, imps]; omega) | exact (u8w _).1 | exact (u8w _).2 | exact (u8n _).1 | exact (u8n _).2 | (simp only [byt, maxLen, lens]; omega) | (intros; simp only [nb] at *; omega))) ?_
  refine W.cond rfl (fun hb0 => ?_) (fun hb0 => ?_)
  · have hk0 : lnOK x c f = false := or_no1 hb0 (by simp only [lnOK, hasC, hww, ite_tt, ite_ff, gt_iff_lt, ge_iff_le, not_dlt, not_dle, bne_not, deq, decide_not, ne_eq, Bool.not_and, Bool.not_or, Bool.not_not, Bool.and_true, Bool.true_and, Bool.or_false, Bool.false_or, Int.toNat_natCast] <;> first | rfl | ac_rfl)
    refine W.seq ?_
    refine W.reg X [] [] [8] [] rfl ⟨⟩ ?_
    refine W.ret ?_
    exact Fin.ret rfl ⟨by rw [linkable, if_neg (by rw [hk0]; decide)], ⟨⟩⟩
  · have hk0 : lnOK x c f = true := or_yes hb0 (by simp only [lnOK, hasC, hww, ite_tt, ite_ff, gt_iff_lt, ge_iff_le, not_dlt, not_dle, bne_not, deq, decide_not, ne_eq, Bool.not_and, Bool.not_or, Bool.not_not, Bool.and_true, Bool.true_and, Bool.or_false, Bool.false_or, Int.toNat_natCast] <;> first | rfl | ac_rfl)
    have hcf := lnOK_c hk0
    refine W.skip ?_
    refine W.seq ?_
    refine W.reg X [] [] [2, 3, 4, 9, 10] [] rfl (by (repeat' (first | exact True.intro | apply And.intro)) <;> first | (intros; omega) | exact rfl | exact El_all _ (by decide) | exact ⟨rfl, El_all _ (by decide)⟩ | ((intro h1; first | (intro h2; first | (intro h3; refine And.intro ?_ ?_) | refine And.intro ?_ ?_) | refine And.intro ?_ ?_) <;> first | omega | ((try simp only [nb, inr_t, inr_f] at *); (try simp (disch := omega) only [i64w]); omega)) | ((try simp only [nb, inr_t, inr_f] at *); (simp (disch := omega) only [i64w]); omega) | (refine fun _ => ?_; dsimp only [hyps, imps]; omega) | (refine fun _ _ => ?_; dsimp only [hyps, imps]; omega) | exact (u8w _).1 | exact (u8w _).2 | exact (u8n _).1 | exact (u8n _).2 | (simp only [byt, maxLen, lens]; omega) | (intros; simp only [nb] at *; omega)) ?_
    refine W.seq ?_
    refine W.seq ?_
    refine W.reg X [] [] [2, 3, 4, 9, 10, 11] [] rfl ⟨⟩ ?_
    refine W.block ?_
    refine W.loopO (fun k => k ≤ (mini m 100 - 1).toNat) (fun k : Nat => [(9, .one (.a (.lit (.int .i64 ((lk (x.devices.getD c.toNat (dfl .Dev)).live.key f x.rows k : Nat) : Int))))), (11, .one (.a (.lit (.int .i64 ((k + 1 : Nat) : Int)))))]) (fun k => []) (fun k => (mini m 100 - 1).toNat - k) 0 (fun k => rfl) (Nat.zero_le _) rfl ?_
    intro k hk
    have hle := lk_le (x.devices.getD c.toNat (dfl .Dev)).live.key f x.rows k
    have hw1 : IntKind.i64.wrap (f + ((k + 1 : Nat) : Int)) = f + ((k + 1 : Nat) : Int) := i64w (by omega)
    have hw2 : IntKind.i64.wrap (f + ((k + 1 : Nat) : Int) - 1) = f + (k : Int) := by rw [i64w (by omega)]; omega
    refine W.seq ?_
    refine W.seq ?_
    refine W.reg X [] [] [2, 3, 4, 9, 10, 11, 42] [] rfl ⟨⟩ ?_
    refine W.cond rfl (fun hb1 => ?_) (fun hb1 => ?_)
    · try simp only [nb, inr_t, inr_f, isEmpty_t] at hb1
      refine W.skip ?_
      refine W.seq ?_
      refine W.block ?_
      refine W.seq ?_
      refine W.draw X [] [(51, ⟨false, [.a (.lit (.int .i64 (mrow ((x.devices.getD c.toNat (dfl .Dev)).live.key) (IntKind.i64.wrap (f + ((k + 1 : Nat) : Int))) 0 x.rows)))]⟩), (59, ⟨false, [.a (.lit (.int .i64 (mrow ((x.devices.getD c.toNat (dfl .Dev)).live.key) (IntKind.i64.wrap ((IntKind.i64.wrap (f + ((k + 1 : Nat) : Int))) - 1)) 0 x.rows)))]⟩)] [2, 3, 4, 9, 10, 11, 60] [] 16 MO (by kernel_rfl) rfl (by (repeat' (first | with_reducible exact AllP.nil | with_reducible refine AllP.mk ?_ ?_ | with_reducible apply And.intro)) <;> skip; (iterate 2 (all_goals try (first | exact (c_spec_MailboxRow ((x.devices.getD c.toNat (dfl .Dev)).live.key) (IntKind.i64.wrap (f + ((k + 1 : Nat) : Int))) 0 x.rows) | exact fun _ => (c_spec_MailboxRow ((x.devices.getD c.toNat (dfl .Dev)).live.key) (IntKind.i64.wrap (f + ((k + 1 : Nat) : Int))) 0 x.rows) | exact fun _ _ => (c_spec_MailboxRow ((x.devices.getD c.toNat (dfl .Dev)).live.key) (IntKind.i64.wrap (f + ((k + 1 : Nat) : Int))) 0 x.rows) | exact (c_spec_MailboxRow ((x.devices.getD c.toNat (dfl .Dev)).live.key) (IntKind.i64.wrap ((IntKind.i64.wrap (f + ((k + 1 : Nat) : Int))) - 1)) 0 x.rows) | exact fun _ => (c_spec_MailboxRow ((x.devices.getD c.toNat (dfl .Dev)).live.key) (IntKind.i64.wrap ((IntKind.i64.wrap (f + ((k + 1 : Nat) : Int))) - 1)) 0 x.rows) | exact fun _ _ => (c_spec_MailboxRow ((x.devices.getD c.toNat (dfl .Dev)).live.key) (IntKind.i64.wrap ((IntKind.i64.wrap (f + ((k + 1 : Nat) : Int))) - 1)) 0 x.rows)))); all_goals (first | (intros; omega) | exact rfl | exact El_all _ (by decide) | exact ⟨rfl, El_all _ (by decide)⟩ | ((intro h1; first | (intro h2; first | (intro h3; refine And.intro ?_ ?_) | refine And.intro ?_ ?_) | refine And.intro ?_ ?_) <;> first | omega | ((try simp only [nb, inr_t, inr_f] at *); (try simp (disch := omega) only [i64w]); omega)) | ((try simp only [nb, inr_t, inr_f] at *); (simp (disch := omega) only [i64w]); omega) | (refine fun _ => ?_; dsimp only [hyps, imps]; omega) | (refine fun _ _ => ?_; dsimp only [hyps, imps]; omega) | exact (u8w _).1 | exact (u8w _).2 | exact (u8n _).1 | exact (u8n _).2 | (simp only [byt, maxLen, lens]; omega) | (intros; simp only [nb] at *; omega))) ?_
      refine W.cond rfl (fun hb2 => ?_) (fun hb2 => ?_)
      · try simp only [nb, inr_t, inr_f, isEmpty_t] at hb2
        rw [hw1, hw2] at hb2
        have hs := lk_hit hb2
        refine W.reg X [] [] [2, 3, 4, 9, 10, 11] [] rfl ⟨⟩ ?_
        refine W.reg X [] [] [2, 3, 4, 9, 10, 11] [] rfl ⟨⟩ ?_
        refine ⟨k + 1, by omega, by omega, ?_⟩
        rw [wadd _ (k + 1) rfl (by omega), wadd _ (lk (x.devices.getD c.toNat (dfl .Dev)).live.key f x.rows k) rfl (by omega), hs]
        try rfl
      · try simp only [nb, inr_t, inr_f, isEmpty_t] at hb2
        rw [hw1, hw2] at hb2
        have hs := lk_miss hb2
        refine W.skip ?_
        refine W.reg X [] [] [2, 3, 4, 9, 10, 11] [] rfl ⟨⟩ ?_
        refine ⟨k + 1, by omega, by omega, ?_⟩
        rw [wadd _ (k + 1) rfl (by omega), hs]
        try rfl
    · try simp only [nb, inr_t, inr_f, isEmpty_t] at hb1
      refine W.exit ?_
      refine W.seq ?_
      refine W.reg X [] [] [8] [] rfl ⟨⟩ ?_
      refine W.ret ?_
      exact Fin.ret rfl ⟨by rw [linkable, if_pos hk0, show k = (mini m 100 - 1).toNat by omega], ⟨⟩⟩
end Go.Proofs.Ytlocnjfgeifmnaa.G
namespace Go.Proofs.Ytlocnjfgeifmnaa.G
set_option linter.all false
open Go.RowKit L D
set_option maxRecDepth 100000
theorem c_FnExactLinkableRows (x0 : Wld) (h_x0 : (wf_Wld) x0) (x1 : Int) (i_x1 : I64 x1) (x2 : Int) (i_x2 : I64 x2) (x3 : Int) (i_x3 : I64 x3) : Sound ty Try.prog 4 [.agg (dec_Wld x0), .a (.lit (.int .i64 x1)), .a (.lit (.int .i64 x2)), .a (.lit (.int .i64 x3))] [.a (.lit (.bool true))] := by
  refine Sound.of X Try.call4 Try.func4 rfl rfl (by decide) Try.ntmps4 (by simp) ?_
  intro zb
  refine W.seq ?_
  refine W.reg X [] [] [1, 2, 3, 4] [] rfl ⟨⟩ ?_
  refine W.seq ?_
  refine W.reg X [] [] [1, 2, 3, 4, 9] [] rfl ⟨⟩ ?_
  refine W.seq ?_
  refine W.reg X [] [(15, ⟨false, [.a (.lit (.int .i64 (szr (1048576) (size_Wld x0))))]⟩)] [1, 2, 3, 4, 9] [] rfl ⟨c_szWorld x0 (1048576) (by omega) (by omega), ⟨⟩⟩ ?_
  refine W.seq ?_
  refine W.seq ?_
  refine W.reg X [] [] [1, 2, 3, 4, 17] [] rfl ⟨⟩ ?_
  refine W.cond rfl (fun hb0 => ?_) (fun hb0 => ?_)
  · try simp only [decide_eq_true_eq, decide_eq_false_iff_not, Bool.not_eq_true', Bool.not_eq_false', beq_iff_eq, bne_iff_ne, beq_eq_false_iff_ne, bne_eq_false_iff_eq, ne_eq, gt_iff_lt, ge_iff_le, Int.not_lt, Int.not_le, Decidable.not_not, Int.toNat_natCast, Int.ofNat_lt, Int.ofNat_le, Nat.not_lt, Nat.not_le, Bool.if_false_right, Bool.if_true_left, Bool.if_false_left, Bool.if_true_right, Bool.and_eq_true, Bool.or_eq_true, Bool.and_eq_false_iff, Bool.or_eq_false_iff, Bool.decide_eq_true] at hb0
    refine W.seq ?_
    refine W.reg X [] [] [8] [] rfl ⟨⟩ ?_
    refine W.ret ?_
    exact Fin.ret rfl ⟨rfl, ⟨⟩⟩
  · try simp only [decide_eq_true_eq, decide_eq_false_iff_not, Bool.not_eq_true', Bool.not_eq_false', beq_iff_eq, bne_iff_ne, beq_eq_false_iff_ne, bne_eq_false_iff_eq, ne_eq, gt_iff_lt, ge_iff_le, Int.not_lt, Int.not_le, Decidable.not_not, Int.toNat_natCast, Int.ofNat_lt, Int.ofNat_le, Nat.not_lt, Nat.not_le, Bool.if_false_right, Bool.if_true_left, Bool.if_false_left, Bool.if_true_right, Bool.and_eq_true, Bool.or_eq_true, Bool.and_eq_false_iff, Bool.or_eq_false_iff, Bool.decide_eq_true] at hb0
    obtain ⟨e0, e0'⟩ := szr_pos hb0
    rw [e0]
    refine W.skip ?_
    refine W.seq ?_
    refine W.reg X [(19, 225)] [(19, ⟨true, [.agg (dec_Wld x0)]⟩), (23, ⟨false, [.a (.lit (.int .i64 (linkable x0 x1 x2 x3)))]⟩)] [1, 2, 3, 4, 10] [] rfl ⟨c_spec_LinkableRows x0 x1 x2 x3 (by have := i_x3.1; omega), c_toWorld x0 (by omega), ⟨⟩⟩ ?_
    refine W.seq ?_
    refine W.reg X [(25, 275)] [(25, ⟨true, [.agg (dec_Wld x0)]⟩)] [1, 2, 3, 4, 10, 11] [] rfl ⟨c_toWorld x0 (by omega), ⟨⟩⟩ ?_
    refine W.seq ?_
    refine W.reg X [] [(30, ⟨false, [.a (.lit (.int .i64 (linkable x0 x1 x2 x3)))]⟩)] [4, 10, 11, 12] [] rfl ⟨c_impl_LinkableRows x0 x1 x2 x3 (by have := i_x3.1; omega), ⟨⟩⟩ ?_
    refine W.seq ?_
    refine W.seq ?_
    refine W.reg X [] [] [4, 11, 33] [] rfl ⟨⟩ ?_
    refine W.cond rfl (fun hb1 => ?_) (fun hb1 => ?_)
    · exact absurd hb1 (by first | (simp; done) | (simp; omega))
    · clear hb1
      refine W.skip ?_
      refine W.seq ?_
      refine W.seq ?_
      refine W.draw X [(36, 325)] [(36, ⟨true, [.agg (dec_Wld x0)]⟩), (37, ⟨false, [.a (.lit (.bool true))]⟩)] [38] [] 5 MO (by kernel_rfl) rfl ⟨c_eqWorld x0, c_toWorld x0 (by omega), ⟨⟩⟩ ?_
      refine W.cond rfl (fun hb2 => ?_) (fun hb2 => ?_)
      · exact absurd hb2 (by first | (simp; done) | (simp; omega))
      · clear hb2
        refine W.skip ?_
        refine W.seq ?_
        refine W.reg X [] [] [8] [] rfl ⟨⟩ ?_
        refine W.ret ?_
        exact Fin.ret rfl ⟨rfl, ⟨⟩⟩
end Go.Proofs.Ytlocnjfgeifmnaa.G
