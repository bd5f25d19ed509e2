/-
  FnExactAllInboxes, walked by the symbolic machine: it returns true.
-/
import Derived.Test.YtfiaikmlnemnfaaZAllInboxesM9
import Derived.Test.YtfiaikmlnemnfaaZAllInboxesM10
import Derived.Test.YtfiaikmlnemnfaaZAllInboxesM8
namespace Go.Proofs.Ytfiaikmlnemnfaa.G
set_option linter.all false
open Go.RowKit L D
set_option maxRecDepth 100000
theorem c_slices_Clone_byte_byte (l : List UInt8) (hl : l.length ≤ 1048576) : Sound ty Try.prog 109 [.a (.sl .u8 l)] [.a (.sl .u8 l)] := by
  refine Sound.of X Try.call109 Try.func109 rfl rfl (by decide) Try.ntmps109 (by simp) ?_
  intro zb
  refine W.seq ?_
  refine W.reg X [] [] [0] [] rfl ⟨⟩ ?_
  refine W.seq ?_
  refine W.seq ?_
  refine W.isNil X [] [] [0, 4] rfl (by (repeat' (first | exact True.intro | apply And.intro)) <;> first | (intros; omega) | exact rfl | exact El_all _ (by decide) | exact ⟨rfl, El_all _ (by decide)⟩ | ((intro h1; first | (intro h2; first | (intro h3; refine And.intro ?_ ?_) | refine And.intro ?_ ?_) | refine And.intro ?_ ?_) <;> first | omega | ((try simp only [nb, inr_t, inr_f] at *); (try simp (disch := omega) only [i64w]); omega)) | ((try simp only [nb, inr_t, inr_f] at *); (simp (disch := omega) only [i64w]); omega) | (refine fun _ => ?_; dsimp only [hyps, imps]; omega) | (refine fun _ _ => ?_; dsimp only [hyps, imps]; omega) | exact (u8w _).1 | exact (u8w _).2 | exact (u8n _).1 | exact (u8n _).2 | (simp only [byt, maxLen, lens]; omega) | (intros; simp only [nb] at *; omega)) (fun hn1 => ?_) ?_
  · skip
    refine W.cond rfl (fun _ => ?_) (fun hb => absurd hb (by decide))
    refine W.seq ?_
    refine W.reg X [] [] [2] [] rfl ⟨⟩ ?_
    refine W.ret ?_
    exact Fin.ret rfl ⟨hn1, ⟨⟩⟩
  · skip
    refine W.cond rfl (fun hb => absurd hb (by decide)) (fun _ => ?_)
    refine W.skip ?_
    refine W.seq ?_
    refine W.reg X [(7, 5)] [] [2] [] rfl (by (repeat' (first | exact True.intro | apply And.intro)) <;> first | (intros; omega) | exact rfl | exact El_all _ (by decide) | exact ⟨rfl, El_all _ (by decide)⟩ | ((intro h1; first | (intro h2; first | (intro h3; refine And.intro ?_ ?_) | refine And.intro ?_ ?_) | refine And.intro ?_ ?_) <;> first | omega | ((try simp only [nb, inr_t, inr_f] at *); (try simp (disch := omega) only [i64w]); omega)) | ((try simp only [nb, inr_t, inr_f] at *); (simp (disch := omega) only [i64w]); omega) | (refine fun _ => ?_; dsimp only [hyps, imps]; omega) | (refine fun _ _ => ?_; dsimp only [hyps, imps]; omega) | exact (u8w _).1 | exact (u8w _).2 | exact (u8n _).1 | exact (u8n _).2 | (simp only [byt, maxLen, lens]; omega) | (intros; simp only [nb] at *; omega)) ?_
    refine W.ret ?_
    exact Fin.ret rfl ⟨rfl, ⟨⟩⟩
theorem c_impl_copyLists (l : List (List UInt8)) (hs0 : lsz List.length l ≤ 1048576) : Sound ty Try.prog 77 [.a (.sl (.sl .u8) l)] [.a (.sl (.sl .u8) l)] := by
  refine Sound.of X Try.call77 Try.func77 rfl rfl (by decide) Try.ntmps77 (by simp) ?_
  intro zb
  have hll : l.length ≤ 1048576 := lsz_len hs0
  refine W.seq ?_
  refine W.reg X [] [] [0] [] rfl ⟨⟩ ?_
  refine W.seq ?_
  refine W.reg X [] [] [0, 3] [] rfl (by (repeat' (first | exact True.intro | apply And.intro)) <;> first | (intros; omega) | exact rfl | exact El_all _ (by decide) | exact ⟨rfl, El_all _ (by decide)⟩ | ((intro h1; first | (intro h2; first | (intro h3; refine And.intro ?_ ?_) | refine And.intro ?_ ?_) | refine And.intro ?_ ?_) <;> first | omega | ((try simp only [nb, inr_t, inr_f] at *); (try simp (disch := omega) only [i64w]); omega)) | ((try simp only [nb, inr_t, inr_f] at *); (simp (disch := omega) only [i64w]); omega) | (refine fun _ => ?_; dsimp only [hyps, imps]; omega) | (refine fun _ _ => ?_; dsimp only [hyps, imps]; omega) | exact (u8w _).1 | exact (u8w _).2 | exact (u8n _).1 | exact (u8n _).2 | (simp only [byt, maxLen, lens]; omega) | (intros; simp only [nb] at *; omega)) ?_
  refine W.seq ?_
  refine W.seq ?_
  refine W.reg X [] [] [3, 7, 8, 9] [] rfl ⟨⟩ ?_
  refine W.block ?_
  refine W.loopO (fun k => k ≤ l.length) (fun k : Nat => [(9, .one (.a (.lit (.int .i64 k))))]) (fun k => [(6, .arr (.sl .u8) (l.take k))]) (fun k => l.length - k) 0 (fun k => rfl) (Nat.zero_le _) rfl ?_
  intro k hk
  have hle := take_le_len l k
  refine W.seq ?_
  refine W.reg X [] [] [3, 7, 8, 9, 10] [] rfl ⟨⟩ ?_
  refine W.seq ?_
  refine W.cond rfl (fun hb0 => ?_) (fun hb0 => ?_)
  · try simp only [nb, inr_t, inr_f, isEmpty_t] at hb0
    have hs := take_snoc l k (dfl (.sl .u8)) hb0
    have hel := lsz_el hs0 k hb0
    refine W.skip ?_
    refine W.seq ?_
    refine W.block ?_
    refine W.seq ?_
    refine W.reg X [] [] [3, 5, 7, 8, 9] [] rfl (by (repeat' (first | exact True.intro | apply And.intro)) <;> first | (intros; omega) | exact rfl | exact El_all _ (by decide) | exact ⟨rfl, El_all _ (by decide)⟩ | ((intro h1; first | (intro h2; first | (intro h3; refine And.intro ?_ ?_) | refine And.intro ?_ ?_) | refine And.intro ?_ ?_) <;> first | omega | ((try simp only [nb, inr_t, inr_f] at *); (try simp (disch := omega) only [i64w]); omega)) | ((try simp only [nb, inr_t, inr_f] at *); (simp (disch := omega) only [i64w]); omega) | (refine fun _ => ?_; dsimp only [hyps, imps]; omega) | (refine fun _ _ => ?_; dsimp only [hyps, imps]; omega) | exact (u8w _).1 | exact (u8w _).2 | exact (u8n _).1 | exact (u8n _).2 | (simp only [byt, maxLen, lens]; omega) | (intros; simp only [nb] at *; omega)) ?_
    refine W.reg X [(17, 6)] [(15, ⟨true, [.a (.sl .u8 _)]⟩)] [3, 7, 8, 9] [] rfl (by (repeat' (first | with_reducible exact AllP.nil | with_reducible refine AllP.mk ?_ ?_ | with_reducible apply And.intro)) <;> skip; (iterate 1 (all_goals try (first | exact (c_slices_Clone_byte_byte _ (by first | assumption | omega | (simp; done) | (simp; omega))) | exact fun _ => (c_slices_Clone_byte_byte _ (by first | assumption | omega | (simp; done) | (simp; omega))) | exact fun _ _ => (c_slices_Clone_byte_byte _ (by first | assumption | omega | (simp; done) | (simp; omega)))))); all_goals (first | (intros; omega) | exact rfl | exact El_all _ (by decide) | exact ⟨rfl, El_all _ (by decide)⟩ | ((intro h1; first | (intro h2; first | (intro h3; refine And.intro ?_ ?_) | refine And.intro ?_ ?_) | refine And.intro ?_ ?_) <;> first | omega | ((try simp only [nb, inr_t, inr_f] at *); (try simp (disch := omega) only [i64w]); omega)) | ((try simp only [nb, inr_t, inr_f] at *); (simp (disch := omega) only [i64w]); omega) | (refine fun _ => ?_; dsimp only [hyps, imps]; omega) | (refine fun _ _ => ?_; dsimp only [hyps, imps]; omega) | exact (u8w _).1 | exact (u8w _).2 | exact (u8n _).1 | exact (u8n _).2 | (simp only [byt, maxLen, lens]; omega) | (intros; simp only [nb] at *; omega))) ?_
    refine W.reg X [] [] [3, 7, 8, 9] [] rfl ⟨⟩ ?_
    refine ⟨k + 1, by omega, by omega, ?_⟩
    rw [wadd _ k rfl (by omega), hs]
    try rfl
  · try simp only [nb, inr_t, inr_f, isEmpty_t] at hb0
    refine W.exit ?_
    refine W.seq ?_
    refine W.reg X [] [] [2] [] rfl ⟨⟩ ?_
    refine W.ret ?_
    exact Fin.ret rfl ⟨by rw [List.take_of_length_le hb0], ⟨⟩⟩
theorem c_spec_l4Copy (l : List (List UInt8)) (hs0 : lsz List.length l ≤ 1048576) : Sound ty Try.prog 76 [.a (.sl (.sl .u8) l)] [.a (.sl (.sl .u8) l)] := by
  refine Sound.of X Try.call76 Try.func76 rfl rfl (by decide) Try.ntmps76 (by simp) ?_
  intro zb
  have hll : l.length ≤ 1048576 := lsz_len hs0
  refine W.seq ?_
  refine W.reg X [] [] [0] [] rfl ⟨⟩ ?_
  refine W.seq ?_
  refine W.reg X [] [] [0, 3] [] rfl (by (repeat' (first | exact True.intro | apply And.intro)) <;> first | (intros; omega) | exact rfl | exact El_all _ (by decide) | exact ⟨rfl, El_all _ (by decide)⟩ | ((intro h1; first | (intro h2; first | (intro h3; refine And.intro ?_ ?_) | refine And.intro ?_ ?_) | refine And.intro ?_ ?_) <;> first | omega | ((try simp only [nb, inr_t, inr_f] at *); (try simp (disch := omega) only [i64w]); omega)) | ((try simp only [nb, inr_t, inr_f] at *); (simp (disch := omega) only [i64w]); omega) | (refine fun _ => ?_; dsimp only [hyps, imps]; omega) | (refine fun _ _ => ?_; dsimp only [hyps, imps]; omega) | exact (u8w _).1 | exact (u8w _).2 | exact (u8n _).1 | exact (u8n _).2 | (simp only [byt, maxLen, lens]; omega) | (intros; simp only [nb] at *; omega)) ?_
  refine W.seq ?_
  refine W.seq ?_
  refine W.reg X [] [] [0, 3, 4] [] rfl ⟨⟩ ?_
  refine W.block ?_
  refine W.loopO (fun k => k ≤ l.length) (fun k : Nat => [(4, .one (.a (.lit (.int .i64 k))))]) (fun k => [(5, .arr (.sl .u8) (l.take k))]) (fun k => l.length - k) 0 (fun k => rfl) (Nat.zero_le _) rfl ?_
  intro k hk
  have hle := take_le_len l k
  refine W.seq ?_
  refine W.seq ?_
  refine W.reg X [] [] [0, 3, 4, 9] [] rfl ⟨⟩ ?_
  refine W.cond rfl (fun hb0 => ?_) (fun hb0 => ?_)
  · try simp only [nb, inr_t, inr_f, isEmpty_t] at hb0
    have hs := take_snoc l k (dfl (.sl .u8)) hb0
    have hel := lsz_el hs0 k hb0
    refine W.skip ?_
    refine W.seq ?_
    refine W.block ?_
    refine W.reg X [(18, 13), (20, 5)] [] [0, 3, 4] [] rfl (by (repeat' (first | exact True.intro | apply And.intro)) <;> first | (intros; omega) | exact rfl | exact El_all _ (by decide) | exact ⟨rfl, El_all _ (by decide)⟩ | ((intro h1; first | (intro h2; first | (intro h3; refine And.intro ?_ ?_) | refine And.intro ?_ ?_) | refine And.intro ?_ ?_) <;> first | omega | ((try simp only [nb, inr_t, inr_f] at *); (try simp (disch := omega) only [i64w]); omega)) | ((try simp only [nb, inr_t, inr_f] at *); (simp (disch := omega) only [i64w]); omega) | (refine fun _ => ?_; dsimp only [hyps, imps]; omega) | (refine fun _ _ => ?_; dsimp only [hyps, imps]; omega) | exact (u8w _).1 | exact (u8w _).2 | exact (u8n _).1 | exact (u8n _).2 | (simp only [byt, maxLen, lens]; omega) | (intros; simp only [nb] at *; omega)) ?_
    refine W.reg X [] [] [0, 3, 4] [] rfl ⟨⟩ ?_
    refine ⟨k + 1, by omega, by omega, ?_⟩
    rw [wadd _ k rfl (by omega), hs]
    try rfl
  · try simp only [nb, inr_t, inr_f, isEmpty_t] at hb0
    refine W.exit ?_
    refine W.seq ?_
    refine W.reg X [] [] [2] [] rfl ⟨⟩ ?_
    refine W.ret ?_
    exact Fin.ret rfl ⟨by rw [List.take_of_length_le hb0], ⟨⟩⟩
theorem c_impl_Encrypt (s : Int) (l : List UInt8) (hl : l.length ≤ 1048576) : Sound ty Try.prog 159 [.a (.lit (.int .i64 s)), .a (.sl .u8 l)] [.a (.sl .u8 (encr s l))] := by
  refine Sound.of X Try.call159 Try.func159 rfl rfl (by decide) Try.ntmps159 (by simp) ?_
  intro zb
  refine W.seq ?_
  refine W.reg X [] [] [0, 1] [] rfl ⟨⟩ ?_
  refine W.seq ?_
  refine W.reg X [] [(8, ⟨true, [.a (.sl .u8 _)]⟩)] [0, 5] [] rfl (by (repeat' (first | with_reducible exact AllP.nil | with_reducible refine AllP.mk ?_ ?_ | with_reducible apply And.intro)) <;> skip; (iterate 1 (all_goals try (first | exact (c_slices_Clone_byte_byte _ (by first | assumption | omega | (simp; done) | (simp; omega))) | exact fun _ => (c_slices_Clone_byte_byte _ (by first | assumption | omega | (simp; done) | (simp; omega))) | exact fun _ _ => (c_slices_Clone_byte_byte _ (by first | assumption | omega | (simp; done) | (simp; omega)))))); all_goals (first | (intros; omega) | exact rfl | exact El_all _ (by decide) | exact ⟨rfl, El_all _ (by decide)⟩ | ((intro h1; first | (intro h2; first | (intro h3; refine And.intro ?_ ?_) | refine And.intro ?_ ?_) | refine And.intro ?_ ?_) <;> first | omega | ((try simp only [nb, inr_t, inr_f] at *); (try simp (disch := omega) only [i64w]); omega)) | ((try simp only [nb, inr_t, inr_f] at *); (simp (disch := omega) only [i64w]); omega) | (refine fun _ => ?_; dsimp only [hyps, imps]; omega) | (refine fun _ _ => ?_; dsimp only [hyps, imps]; omega) | exact (u8w _).1 | exact (u8w _).2 | exact (u8n _).1 | exact (u8n _).2 | (simp only [byt, maxLen, lens]; omega) | (intros; simp only [nb] at *; omega))) ?_
  refine W.seq ?_
  refine W.seq ?_
  refine W.reg X [] [] [0, 5, 10, 11] [] rfl ⟨⟩ ?_
  refine W.block ?_
  refine W.loopO (fun k => k ≤ l.length) (fun k : Nat => [(11, .one (.a (.lit (.int .i64 k))))]) (fun k => [(8, .arr .u8 ((encr s l).take k ++ l.drop k))]) (fun k => l.length - k) 0 (fun k => rfl) (Nat.zero_le _) rfl ?_
  intro k hk
  have hle := part_len (encr s l) l k (encr_len s l) hk
  refine W.seq ?_
  refine W.reg X [] [] [0, 5, 10, 11, 12] [] rfl ⟨⟩ ?_
  refine W.seq ?_
  refine W.cond rfl (fun hb0 => ?_) (fun hb0 => ?_)
  · try simp only [nb, inr_t, inr_f, isEmpty_t] at hb0
    have hs := encr_impl s l k hb0
    refine W.skip ?_
    refine W.seq ?_
    refine W.block ?_
    refine W.seq ?_
    refine W.reg X [] [] [0, 5, 6, 10, 11] [] rfl ⟨⟩ ?_
    refine W.draw X [] [(21, ⟨false, [.a (.lit (.int .i64 _))]⟩)] [0, 5, 10, 11] [] 12 MO (by kernel_rfl) rfl (by (repeat' (first | with_reducible exact AllP.nil | with_reducible refine AllP.mk ?_ ?_ | with_reducible apply And.intro)) <;> skip; (iterate 1 (all_goals try (first | exact (c_impl_KeyedHash _ _ (by first | assumption | omega | (simp; done) | (simp; omega))) | exact fun _ => (c_impl_KeyedHash _ _ (by first | assumption | omega | (simp; done) | (simp; omega))) | exact fun _ _ => (c_impl_KeyedHash _ _ (by first | assumption | omega | (simp; done) | (simp; omega)))))); all_goals (first | (intros; omega) | exact rfl | exact El_all _ (by decide) | exact ⟨rfl, El_all _ (by decide)⟩ | ((intro h1; first | (intro h2; first | (intro h3; refine And.intro ?_ ?_) | refine And.intro ?_ ?_) | refine And.intro ?_ ?_) <;> first | omega | ((try simp only [nb, inr_t, inr_f] at *); (try simp (disch := omega) only [i64w]); omega)) | ((try simp only [nb, inr_t, inr_f] at *); (simp (disch := omega) only [i64w]); omega) | (refine fun _ => ?_; dsimp only [hyps, imps]; omega) | (refine fun _ _ => ?_; dsimp only [hyps, imps]; omega) | exact (u8w _).1 | exact (u8w _).2 | exact (u8n _).1 | exact (u8n _).2 | (simp only [byt, maxLen, lens]; omega) | (intros; simp only [nb] at *; omega))) ?_
    refine W.reg X [] [] [0, 5, 10, 11] [] rfl ⟨⟩ ?_
    refine ⟨k + 1, by omega, by omega, ?_⟩
    rw [wadd _ k rfl (by omega), hs]
    try rfl
  · try simp only [nb, inr_t, inr_f, isEmpty_t] at hb0
    refine W.exit ?_
    refine W.seq ?_
    refine W.reg X [] [] [4] [] rfl ⟨⟩ ?_
    refine W.ret ?_
    exact Fin.ret rfl ⟨by rw [inplace_done _ _ _ (encr_len s l) hb0], ⟨⟩⟩
theorem c_impl_IsValidKey (k : Int) : Sound ty Try.prog 118 [.a (.lit (.int .i64 k))] [.a (.lit (.bool (okKey k)))] := by
  refine Sound.of X Try.call118 Try.func118 rfl rfl (by decide) Try.ntmps118 (by simp) ?_
  intro zb
  refine W.seq ?_
  refine W.reg X [] [] [0] [] rfl ⟨⟩ ?_
  refine W.seq ?_
  refine W.reg X [] [(4, ⟨false, [.a (.lit (.bool _))]⟩)] [2] [] rfl (by (repeat' (first | with_reducible exact AllP.nil | with_reducible refine AllP.mk ?_ ?_ | with_reducible apply And.intro)) <;> skip; (iterate 1 (all_goals try (first | exact (c_impl_InRange _ _ _) | exact fun _ => (c_impl_InRange _ _ _) | exact fun _ _ => (c_impl_InRange _ _ _)))); all_goals (first | (intros; omega) | exact rfl | exact El_all _ (by decide) | exact ⟨rfl, El_all _ (by decide)⟩ | ((intro h1; first | (intro h2; first | (intro h3; refine And.intro ?_ ?_) | refine And.intro ?_ ?_) | refine And.intro ?_ ?_) <;> first | omega | ((try simp only [nb, inr_t, inr_f] at *); (try simp (disch := omega) only [i64w]); omega)) | ((try simp only [nb, inr_t, inr_f] at *); (simp (disch := omega) only [i64w]); omega) | (refine fun _ => ?_; dsimp only [hyps, imps]; omega) | (refine fun _ _ => ?_; dsimp only [hyps, imps]; omega) | exact (u8w _).1 | exact (u8w _).2 | exact (u8n _).1 | exact (u8n _).2 | (simp only [byt, maxLen, lens]; omega) | (intros; simp only [nb] at *; omega))) ?_
  refine W.ret ?_
  exact Fin.ret rfl ⟨rfl, ⟨⟩⟩
theorem c_impl_IsValidPlain (p : Plain) : Sound ty Try.prog 157 [.agg (dec_Plain p)] [.a (.lit (.bool (okPlain p)))] := by
  refine Sound.of X Try.call157 Try.func157 rfl rfl (by decide) Try.ntmps157 (by simp) ?_
  intro zb
  refine W.seq ?_
  refine W.reg X [] [] [1] [] rfl ⟨⟩ ?_
  refine W.seq ?_
  refine W.reg X [] [(5, ⟨false, [.a (.lit (.bool _))]⟩)] [2] [] rfl (by (repeat' (first | with_reducible exact AllP.nil | with_reducible refine AllP.mk ?_ ?_ | with_reducible apply And.intro)) <;> skip; (iterate 1 (all_goals try (first | exact (c_impl_InRange _ _ _) | exact fun _ => (c_impl_InRange _ _ _) | exact fun _ _ => (c_impl_InRange _ _ _)))); all_goals (first | (intros; omega) | exact rfl | exact El_all _ (by decide) | exact ⟨rfl, El_all _ (by decide)⟩ | ((intro h1; first | (intro h2; first | (intro h3; refine And.intro ?_ ?_) | refine And.intro ?_ ?_) | refine And.intro ?_ ?_) <;> first | omega | ((try simp only [nb, inr_t, inr_f] at *); (try simp (disch := omega) only [i64w]); omega)) | ((try simp only [nb, inr_t, inr_f] at *); (simp (disch := omega) only [i64w]); omega) | (refine fun _ => ?_; dsimp only [hyps, imps]; omega) | (refine fun _ _ => ?_; dsimp only [hyps, imps]; omega) | exact (u8w _).1 | exact (u8w _).2 | exact (u8n _).1 | exact (u8n _).2 | (simp only [byt, maxLen, lens]; omega) | (intros; simp only [nb] at *; omega))) ?_
  refine W.ret ?_
  exact Fin.ret rfl ⟨by unfold okPlain; cases inr p.kind 0 3 <;> rfl, ⟨⟩⟩
theorem c_impl_CellCheck (key c : Int) (l : List UInt8) (hl : l.length ≤ 65536) : Sound ty Try.prog 180 [.a (.lit (.int .i64 key)), .a (.lit (.int .i64 c)), .a (.sl .u8 l)] [.a (.lit (.int .i64 (ccheck key c l)))] := by
  refine Sound.of X Try.call180 Try.func180 rfl rfl (by decide) Try.ntmps180 (by simp) ?_
  intro zb
  refine W.seq ?_
  refine W.reg X [] [] [0, 1, 2] [] rfl ⟨⟩ ?_
  refine W.seq ?_
  refine W.reg X [] [] [0, 2, 7] [] rfl (by (repeat' (first | exact True.intro | apply And.intro)) <;> first | (intros; omega) | exact rfl | exact El_all _ (by decide) | exact ⟨rfl, El_all _ (by decide)⟩ | ((intro h1; first | (intro h2; first | (intro h3; refine And.intro ?_ ?_) | refine And.intro ?_ ?_) | refine And.intro ?_ ?_) <;> first | omega | ((try simp only [nb, inr_t, inr_f] at *); (try simp (disch := omega) only [i64w]); omega)) | ((try simp only [nb, inr_t, inr_f] at *); (simp (disch := omega) only [i64w]); omega) | (refine fun _ => ?_; dsimp only [hyps, imps]; omega) | (refine fun _ _ => ?_; dsimp only [hyps, imps]; omega) | exact (u8w _).1 | exact (u8w _).2 | exact (u8n _).1 | exact (u8n _).2 | (simp only [byt, maxLen, lens]; omega) | (intros; simp only [nb] at *; omega)) ?_
  refine W.seq ?_
  refine W.seq ?_
  refine W.reg X [] [] [0, 7, 12, 13, 14] [] rfl ⟨⟩ ?_
  refine W.block ?_
  refine W.loopO (fun k => k ≤ l.length) (fun k : Nat => [(14, .one (.a (.lit (.int .i64 k))))]) (fun k => [(11, .arr .int ([71, c] ++ (l.take k).map (fun x => (x.toNat : Int))))]) (fun k => l.length - k) 0 (fun k => rfl) (Nat.zero_le _) rfl ?_
  intro k hk
  refine W.seq ?_
  refine W.reg X [] [] [0, 7, 12, 13, 14, 15] [] rfl ⟨⟩ ?_
  refine W.seq ?_
  refine W.cond rfl (fun hb0 => ?_) (fun hb0 => ?_)
  · try simp only [nb, inr_t, inr_f, isEmpty_t] at hb0
    have hs := cc_step l c k hb0
    refine W.skip ?_
    refine W.seq ?_
    refine W.block ?_
    refine W.seq ?_
    refine W.reg X [] [] [0, 7, 9, 12, 13, 14] [] rfl (by (repeat' (first | exact True.intro | apply And.intro)) <;> first | (intros; omega) | exact rfl | exact El_all _ (by decide) | exact ⟨rfl, El_all _ (by decide)⟩ | ((intro h1; first | (intro h2; first | (intro h3; refine And.intro ?_ ?_) | refine And.intro ?_ ?_) | refine And.intro ?_ ?_) <;> first | omega | ((try simp only [nb, inr_t, inr_f] at *); (try simp (disch := omega) only [i64w]); omega)) | ((try simp only [nb, inr_t, inr_f] at *); (simp (disch := omega) only [i64w]); omega) | (refine fun _ => ?_; dsimp only [hyps, imps]; omega) | (refine fun _ _ => ?_; dsimp only [hyps, imps]; omega) | exact (u8w _).1 | exact (u8w _).2 | exact (u8n _).1 | exact (u8n _).2 | (simp only [byt, maxLen, lens]; omega) | (intros; simp only [nb] at *; omega)) ?_
    refine W.reg X [(22, 11)] [] [0, 7, 12, 13, 14] [] rfl (by (repeat' (first | exact True.intro | apply And.intro)) <;> first | (intros; omega) | exact rfl | exact El_all _ (by decide) | exact ⟨rfl, El_all _ (by decide)⟩ | ((intro h1; first | (intro h2; first | (intro h3; refine And.intro ?_ ?_) | refine And.intro ?_ ?_) | refine And.intro ?_ ?_) <;> first | omega | ((try simp only [nb, inr_t, inr_f] at *); (try simp (disch := omega) only [i64w]); omega)) | ((try simp only [nb, inr_t, inr_f] at *); (simp (disch := omega) only [i64w]); omega) | (refine fun _ => ?_; dsimp only [hyps, imps]; omega) | (refine fun _ _ => ?_; dsimp only [hyps, imps]; omega) | exact (u8w _).1 | exact (u8w _).2 | exact (u8n _).1 | exact (u8n _).2 | (simp only [byt, maxLen, lens]; omega) | (intros; simp only [nb] at *; omega)) ?_
    refine W.reg X [] [] [0, 7, 12, 13, 14] [] rfl ⟨⟩ ?_
    refine ⟨k + 1, by omega, by omega, ?_⟩
    rw [wadd _ k rfl (by omega), hs]
    try rfl
  · try simp only [nb, inr_t, inr_f, isEmpty_t] at hb0
    refine W.exit ?_
    refine W.seq ?_
    refine W.reg X [] [(26, ⟨false, [.a (.lit (.int .i64 _))]⟩)] [6] [] rfl (by (repeat' (first | with_reducible exact AllP.nil | with_reducible refine AllP.mk ?_ ?_ | with_reducible apply And.intro)) <;> skip; (iterate 1 (all_goals try (first | exact (c_impl_KeyedHash _ _ (by first | assumption | omega | (simp; done) | (simp; omega))) | exact fun _ => (c_impl_KeyedHash _ _ (by first | assumption | omega | (simp; done) | (simp; omega))) | exact fun _ _ => (c_impl_KeyedHash _ _ (by first | assumption | omega | (simp; done) | (simp; omega)))))); all_goals (first | (intros; omega) | exact rfl | exact El_all _ (by decide) | exact ⟨rfl, El_all _ (by decide)⟩ | ((intro h1; first | (intro h2; first | (intro h3; refine And.intro ?_ ?_) | refine And.intro ?_ ?_) | refine And.intro ?_ ?_) <;> first | omega | ((try simp only [nb, inr_t, inr_f] at *); (try simp (disch := omega) only [i64w]); omega)) | ((try simp only [nb, inr_t, inr_f] at *); (simp (disch := omega) only [i64w]); omega) | (refine fun _ => ?_; dsimp only [hyps, imps]; omega) | (refine fun _ _ => ?_; dsimp only [hyps, imps]; omega) | exact (u8w _).1 | exact (u8w _).2 | exact (u8n _).1 | exact (u8n _).2 | (simp only [byt, maxLen, lens]; omega) | (intros; simp only [nb] at *; omega))) ?_
    refine W.ret ?_
    exact Fin.ret rfl ⟨by rw [List.take_of_length_le hb0]; rfl, ⟨⟩⟩
theorem c_impl_MailboxRow (key r d n : Int) : Sound ty Try.prog 89 [.a (.lit (.int .i64 key)), .a (.lit (.int .i64 r)), .a (.lit (.int .i64 d)), .a (.lit (.int .i64 n))] [.a (.lit (.int .i64 (mrow key r d n)))] := by
  refine Sound.of X Try.call89 Try.func89 rfl rfl (by decide) Try.ntmps89 (by simp) ?_
  intro zb
  refine W.seq ?_
  refine W.reg X [] [] [0, 1, 2, 3] [] rfl ⟨⟩ ?_
  refine W.seq ?_
  refine W.seq ?_
  refine W.reg X [] [(10, ⟨false, [.a (.lit (.bool _))]⟩), (14, ⟨false, [.a (.lit (.bool _))]⟩)] [0, 1, 2, 3, 16] [] rfl (by (repeat' (first | with_reducible exact AllP.nil | with_reducible refine AllP.mk ?_ ?_ | with_reducible apply And.intro)) <;> skip; (iterate 1 (all_goals try (first | exact (c_impl_InRange _ _ _) | exact fun _ => (c_impl_InRange _ _ _) | exact fun _ _ => (c_impl_InRange _ _ _)))); all_goals (first | (intros; omega) | exact rfl | exact El_all _ (by decide) | exact ⟨rfl, El_all _ (by decide)⟩ | ((intro h1; first | (intro h2; first | (intro h3; refine And.intro ?_ ?_) | refine And.intro ?_ ?_) | refine And.intro ?_ ?_) <;> first | omega | ((try simp only [nb, inr_t, inr_f] at *); (try simp (disch := omega) only [i64w]); omega)) | ((try simp only [nb, inr_t, inr_f] at *); (simp (disch := omega) only [i64w]); omega) | (refine fun _ => ?_; dsimp only [hyps, imps]; omega) | (refine fun _ _ => ?_; dsimp only [hyps, imps]; omega) | exact (u8w _).1 | exact (u8w _).2 | exact (u8n _).1 | exact (u8n _).2 | (simp only [byt, maxLen, lens]; omega) | (intros; simp only [nb] at *; omega))) ?_
  refine W.cond rfl (fun hb0 => ?_) (fun hb0 => ?_)
  · try simp only [nb, inr_t, inr_f, isEmpty_t] at hb0
    refine W.seq ?_
    refine W.reg X [] [] [8] [] rfl ⟨⟩ ?_
    refine W.ret ?_
    exact Fin.ret rfl ⟨by rw [mrow, if_neg (by omega)], ⟨⟩⟩
  · try simp only [nb, inr_t, inr_f, isEmpty_t] at hb0
    have hcs := cs_range (kh key [79, r, d]) 0
    refine W.skip ?_
    refine W.seq ?_
    refine W.reg X [] [(21, ⟨false, [.a (.lit (.int .i64 _))]⟩), (22, ⟨false, [.a (.lit (.int .i64 _))]⟩)] [8] [] rfl (by (repeat' (first | with_reducible exact AllP.nil | with_reducible refine AllP.mk ?_ ?_ | with_reducible apply And.intro)) <;> skip; (iterate 2 (all_goals try (first | exact (c_impl_KeyedHash _ _ (by first | assumption | omega | (simp; done) | (simp; omega))) | exact fun _ => (c_impl_KeyedHash _ _ (by first | assumption | omega | (simp; done) | (simp; omega))) | exact fun _ _ => (c_impl_KeyedHash _ _ (by first | assumption | omega | (simp; done) | (simp; omega))) | exact (c_impl_ChildSeed _ _) | exact fun _ => (c_impl_ChildSeed _ _) | exact fun _ _ => (c_impl_ChildSeed _ _)))); all_goals (first | (intros; omega) | exact rfl | exact El_all _ (by decide) | exact ⟨rfl, El_all _ (by decide)⟩ | ((intro h1; first | (intro h2; first | (intro h3; refine And.intro ?_ ?_) | refine And.intro ?_ ?_) | refine And.intro ?_ ?_) <;> first | omega | ((try simp only [nb, inr_t, inr_f] at *); (try simp (disch := omega) only [i64w]); omega)) | ((try simp only [nb, inr_t, inr_f] at *); (simp (disch := omega) only [i64w]); omega) | (refine fun _ => ?_; dsimp only [hyps, imps]; omega) | (refine fun _ _ => ?_; dsimp only [hyps, imps]; omega) | exact (u8w _).1 | exact (u8w _).2 | exact (u8n _).1 | exact (u8n _).2 | (simp only [byt, maxLen, lens]; omega) | (intros; simp only [nb] at *; omega))) ?_
    refine W.ret ?_
    exact Fin.ret rfl ⟨by rw [mrow, if_pos (by omega), tmod_pos hcs.1], ⟨⟩⟩
theorem c_spec_Encrypt (s : Int) (l : List UInt8) (hl : l.length ≤ 1048576) : Sound ty Try.prog 152 [.a (.lit (.int .i64 s)), .a (.sl .u8 l)] [.a (.sl .u8 (encr s l))] := by
  refine Sound.of X Try.call152 Try.func152 rfl rfl (by decide) Try.ntmps152 (by simp) ?_
  intro zb
  refine W.seq ?_
  refine W.reg X [] [] [0, 1] [] rfl ⟨⟩ ?_
  refine W.seq ?_
  refine W.reg X [] [] [0, 1, 5] [] rfl (by (repeat' (first | exact True.intro | apply And.intro)) <;> first | (intros; omega) | exact rfl | exact El_all _ (by decide) | exact ⟨rfl, El_all _ (by decide)⟩ | ((intro h1; first | (intro h2; first | (intro h3; refine And.intro ?_ ?_) | refine And.intro ?_ ?_) | refine And.intro ?_ ?_) <;> first | omega | ((try simp only [nb, inr_t, inr_f] at *); (try simp (disch := omega) only [i64w]); omega)) | ((try simp only [nb, inr_t, inr_f] at *); (simp (disch := omega) only [i64w]); omega) | (refine fun _ => ?_; dsimp only [hyps, imps]; omega) | (refine fun _ _ => ?_; dsimp only [hyps, imps]; omega) | exact (u8w _).1 | exact (u8w _).2 | exact (u8n _).1 | exact (u8n _).2 | (simp only [byt, maxLen, lens]; omega) | (intros; simp only [nb] at *; omega)) ?_
  refine W.seq ?_
  refine W.seq ?_
  refine W.reg X [] [] [0, 1, 5, 6] [] rfl ⟨⟩ ?_
  refine W.block ?_
  refine W.loopO (fun k => k ≤ l.length) (fun k : Nat => [(6, .one (.a (.lit (.int .i64 k))))]) (fun k => [(7, .arr .u8 ((encr s l).take k))]) (fun k => l.length - k) 0 (fun k => rfl) (Nat.zero_le _) rfl ?_
  intro k hk
  have hle := take_le_len (encr s l) k
  refine W.seq ?_
  refine W.seq ?_
  refine W.reg X [] [] [0, 1, 5, 6, 11] [] rfl ⟨⟩ ?_
  refine W.cond rfl (fun hb0 => ?_) (fun hb0 => ?_)
  · try simp only [nb, inr_t, inr_f, isEmpty_t] at hb0
    have hs := encr_spec s l k hb0
    refine W.skip ?_
    refine W.seq ?_
    refine W.block ?_
    refine W.draw X [(29, 7)] [(23, ⟨false, [.a (.lit (.int .i64 _))]⟩)] [0, 1, 5, 6] [] 15 MO (by kernel_rfl) rfl (by (repeat' (first | with_reducible exact AllP.nil | with_reducible refine AllP.mk ?_ ?_ | with_reducible apply And.intro)) <;> skip; (iterate 1 (all_goals try (first | exact (c_spec_KeyedHash _ _ (by first | assumption | omega | (simp; done) | (simp; omega))) | exact fun _ => (c_spec_KeyedHash _ _ (by first | assumption | omega | (simp; done) | (simp; omega))) | exact fun _ _ => (c_spec_KeyedHash _ _ (by first | assumption | omega | (simp; done) | (simp; omega)))))); all_goals (first | (intros; omega) | exact rfl | exact El_all _ (by decide) | exact ⟨rfl, El_all _ (by decide)⟩ | ((intro h1; first | (intro h2; first | (intro h3; refine And.intro ?_ ?_) | refine And.intro ?_ ?_) | refine And.intro ?_ ?_) <;> first | omega | ((try simp only [nb, inr_t, inr_f] at *); (try simp (disch := omega) only [i64w]); omega)) | ((try simp only [nb, inr_t, inr_f] at *); (simp (disch := omega) only [i64w]); omega) | (refine fun _ => ?_; dsimp only [hyps, imps]; omega) | (refine fun _ _ => ?_; dsimp only [hyps, imps]; omega) | exact (u8w _).1 | exact (u8w _).2 | exact (u8n _).1 | exact (u8n _).2 | (simp only [byt, maxLen, lens]; omega) | (intros; simp only [nb] at *; omega))) ?_
    refine W.reg X [] [] [0, 1, 5, 6] [] rfl ⟨⟩ ?_
    refine ⟨k + 1, by omega, by omega, ?_⟩
    rw [wadd _ k rfl (by omega), hs]
    try rfl
  · try simp only [nb, inr_t, inr_f, isEmpty_t] at hb0
    refine W.exit ?_
    refine W.seq ?_
    refine W.reg X [] [] [4] [] rfl ⟨⟩ ?_
    refine W.ret ?_
    exact Fin.ret rfl ⟨by rw [List.take_of_length_le (by rw [encr_len]; exact hb0)], ⟨⟩⟩
theorem c_spec_IsValidKey (k : Int) : Sound ty Try.prog 114 [.a (.lit (.int .i64 k))] [.a (.lit (.bool (okKey k)))] := by
  refine Sound.of X Try.call114 Try.func114 rfl rfl (by decide) Try.ntmps114 (by simp) ?_
  intro zb
  refine W.seq ?_
  refine W.reg X [] [] [0] [] rfl ⟨⟩ ?_
  refine W.seq ?_
  refine W.reg X [] [(4, ⟨false, [.a (.lit (.bool _))]⟩)] [2] [] rfl (by (repeat' (first | with_reducible exact AllP.nil | with_reducible refine AllP.mk ?_ ?_ | with_reducible apply And.intro)) <;> skip; (iterate 1 (all_goals try (first | exact (c_spec_l1In _ _ _) | exact fun _ => (c_spec_l1In _ _ _) | exact fun _ _ => (c_spec_l1In _ _ _)))); all_goals (first | (intros; omega) | exact rfl | exact El_all _ (by decide) | exact ⟨rfl, El_all _ (by decide)⟩ | ((intro h1; first | (intro h2; first | (intro h3; refine And.intro ?_ ?_) | refine And.intro ?_ ?_) | refine And.intro ?_ ?_) <;> first | omega | ((try simp only [nb, inr_t, inr_f] at *); (try simp (disch := omega) only [i64w]); omega)) | ((try simp only [nb, inr_t, inr_f] at *); (simp (disch := omega) only [i64w]); omega) | (refine fun _ => ?_; dsimp only [hyps, imps]; omega) | (refine fun _ _ => ?_; dsimp only [hyps, imps]; omega) | exact (u8w _).1 | exact (u8w _).2 | exact (u8n _).1 | exact (u8n _).2 | (simp only [byt, maxLen, lens]; omega) | (intros; simp only [nb] at *; omega))) ?_
  refine W.ret ?_
  exact Fin.ret rfl ⟨rfl, ⟨⟩⟩
theorem c_spec_IsValidPlain (p : Plain) : Sound ty Try.prog 150 [.agg (dec_Plain p)] [.a (.lit (.bool (okPlain p)))] := by
  refine Sound.of X Try.call150 Try.func150 rfl rfl (by decide) Try.ntmps150 (by simp) ?_
  intro zb
  refine W.seq ?_
  refine W.reg X [] [] [1] [] rfl ⟨⟩ ?_
  refine W.seq ?_
  refine W.reg X [] [(5, ⟨false, [.a (.lit (.bool _))]⟩)] [2] [] rfl (by (repeat' (first | with_reducible exact AllP.nil | with_reducible refine AllP.mk ?_ ?_ | with_reducible apply And.intro)) <;> skip; (iterate 1 (all_goals try (first | exact (c_spec_l1In _ _ _) | exact fun _ => (c_spec_l1In _ _ _) | exact fun _ _ => (c_spec_l1In _ _ _)))); all_goals (first | (intros; omega) | exact rfl | exact El_all _ (by decide) | exact ⟨rfl, El_all _ (by decide)⟩ | ((intro h1; first | (intro h2; first | (intro h3; refine And.intro ?_ ?_) | refine And.intro ?_ ?_) | refine And.intro ?_ ?_) <;> first | omega | ((try simp only [nb, inr_t, inr_f] at *); (try simp (disch := omega) only [i64w]); omega)) | ((try simp only [nb, inr_t, inr_f] at *); (simp (disch := omega) only [i64w]); omega) | (refine fun _ => ?_; dsimp only [hyps, imps]; omega) | (refine fun _ _ => ?_; dsimp only [hyps, imps]; omega) | exact (u8w _).1 | exact (u8w _).2 | exact (u8n _).1 | exact (u8n _).2 | (simp only [byt, maxLen, lens]; omega) | (intros; simp only [nb] at *; omega))) ?_
  refine W.ret ?_
  exact Fin.ret rfl ⟨by unfold okPlain; cases inr p.kind 0 3 <;> rfl, ⟨⟩⟩
theorem c_spec_CellCheck (key c : Int) (l : List UInt8) (hl : l.length ≤ 65536) : Sound ty Try.prog 154 [.a (.lit (.int .i64 key)), .a (.lit (.int .i64 c)), .a (.sl .u8 l)] [.a (.lit (.int .i64 (ccheck key c l)))] := by
  refine Sound.of X Try.call154 Try.func154 rfl rfl (by decide) Try.ntmps154 (by simp) ?_
  intro zb
  refine W.seq ?_
  refine W.reg X [] [] [0, 1, 2] [] rfl ⟨⟩ ?_
  refine W.seq ?_
  refine W.reg X [] [] [0, 2, 7] [] rfl (by (repeat' (first | exact True.intro | apply And.intro)) <;> first | (intros; omega) | exact rfl | exact El_all _ (by decide) | exact ⟨rfl, El_all _ (by decide)⟩ | ((intro h1; first | (intro h2; first | (intro h3; refine And.intro ?_ ?_) | refine And.intro ?_ ?_) | refine And.intro ?_ ?_) <;> first | omega | ((try simp only [nb, inr_t, inr_f] at *); (try simp (disch := omega) only [i64w]); omega)) | ((try simp only [nb, inr_t, inr_f] at *); (simp (disch := omega) only [i64w]); omega) | (refine fun _ => ?_; dsimp only [hyps, imps]; omega) | (refine fun _ _ => ?_; dsimp only [hyps, imps]; omega) | exact (u8w _).1 | exact (u8w _).2 | exact (u8n _).1 | exact (u8n _).2 | (simp only [byt, maxLen, lens]; omega) | (intros; simp only [nb] at *; omega)) ?_
  refine W.seq ?_
  refine W.seq ?_
  refine W.reg X [] [] [0, 2, 7, 8] [] rfl ⟨⟩ ?_
  refine W.block ?_
  refine W.loopO (fun k => k ≤ l.length) (fun k : Nat => [(8, .one (.a (.lit (.int .i64 k))))]) (fun k => [(10, .arr .int ([71, c] ++ (l.take k).map (fun x => (x.toNat : Int))))]) (fun k => l.length - k) 0 (fun k => rfl) (Nat.zero_le _) rfl ?_
  intro k hk
  refine W.seq ?_
  refine W.seq ?_
  refine W.reg X [] [] [0, 2, 7, 8, 14] [] rfl ⟨⟩ ?_
  refine W.cond rfl (fun hb0 => ?_) (fun hb0 => ?_)
  · try simp only [nb, inr_t, inr_f, isEmpty_t] at hb0
    have hs := cc_step l c k hb0
    refine W.skip ?_
    refine W.seq ?_
    refine W.block ?_
    refine W.reg X [(24, 10)] [] [0, 2, 7, 8] [] rfl (by (repeat' (first | exact True.intro | apply And.intro)) <;> first | (intros; omega) | exact rfl | exact El_all _ (by decide) | exact ⟨rfl, El_all _ (by decide)⟩ | ((intro h1; first | (intro h2; first | (intro h3; refine And.intro ?_ ?_) | refine And.intro ?_ ?_) | refine And.intro ?_ ?_) <;> first | omega | ((try simp only [nb, inr_t, inr_f] at *); (try simp (disch := omega) only [i64w]); omega)) | ((try simp only [nb, inr_t, inr_f] at *); (simp (disch := omega) only [i64w]); omega) | (refine fun _ => ?_; dsimp only [hyps, imps]; omega) | (refine fun _ _ => ?_; dsimp only [hyps, imps]; omega) | exact (u8w _).1 | exact (u8w _).2 | exact (u8n _).1 | exact (u8n _).2 | (simp only [byt, maxLen, lens]; omega) | (intros; simp only [nb] at *; omega)) ?_
    refine W.reg X [] [] [0, 2, 7, 8] [] rfl ⟨⟩ ?_
    refine ⟨k + 1, by omega, by omega, ?_⟩
    rw [wadd _ k rfl (by omega), hs]
    try rfl
  · try simp only [nb, inr_t, inr_f, isEmpty_t] at hb0
    refine W.exit ?_
    refine W.seq ?_
    refine W.reg X [] [(27, ⟨false, [.a (.lit (.int .i64 _))]⟩)] [6] [] rfl (by (repeat' (first | with_reducible exact AllP.nil | with_reducible refine AllP.mk ?_ ?_ | with_reducible apply And.intro)) <;> skip; (iterate 1 (all_goals try (first | exact (c_spec_KeyedHash _ _ (by first | assumption | omega | (simp; done) | (simp; omega))) | exact fun _ => (c_spec_KeyedHash _ _ (by first | assumption | omega | (simp; done) | (simp; omega))) | exact fun _ _ => (c_spec_KeyedHash _ _ (by first | assumption | omega | (simp; done) | (simp; omega)))))); all_goals (first | (intros; omega) | exact rfl | exact El_all _ (by decide) | exact ⟨rfl, El_all _ (by decide)⟩ | ((intro h1; first | (intro h2; first | (intro h3; refine And.intro ?_ ?_) | refine And.intro ?_ ?_) | refine And.intro ?_ ?_) <;> first | omega | ((try simp only [nb, inr_t, inr_f] at *); (try simp (disch := omega) only [i64w]); omega)) | ((try simp only [nb, inr_t, inr_f] at *); (simp (disch := omega) only [i64w]); omega) | (refine fun _ => ?_; dsimp only [hyps, imps]; omega) | (refine fun _ _ => ?_; dsimp only [hyps, imps]; omega) | exact (u8w _).1 | exact (u8w _).2 | exact (u8n _).1 | exact (u8n _).2 | (simp only [byt, maxLen, lens]; omega) | (intros; simp only [nb] at *; omega))) ?_
    refine W.ret ?_
    exact Fin.ret rfl ⟨by rw [List.take_of_length_le hb0]; rfl, ⟨⟩⟩
theorem c_spec_MailboxRow (key r d n : Int) : Sound ty Try.prog 83 [.a (.lit (.int .i64 key)), .a (.lit (.int .i64 r)), .a (.lit (.int .i64 d)), .a (.lit (.int .i64 n))] [.a (.lit (.int .i64 (mrow key r d n)))] := by
  refine Sound.of X Try.call83 Try.func83 rfl rfl (by decide) Try.ntmps83 (by simp) ?_
  intro zb
  refine W.seq ?_
  refine W.reg X [] [] [0, 1, 2, 3] [] rfl ⟨⟩ ?_
  refine W.seq ?_
  refine W.seq ?_
  refine W.reg X [] [(10, ⟨false, [.a (.lit (.bool _))]⟩), (14, ⟨false, [.a (.lit (.bool _))]⟩)] [0, 1, 2, 3, 16] [] rfl (by (repeat' (first | with_reducible exact AllP.nil | with_reducible refine AllP.mk ?_ ?_ | with_reducible apply And.intro)) <;> skip; (iterate 1 (all_goals try (first | exact (c_spec_l1In _ _ _) | exact fun _ => (c_spec_l1In _ _ _) | exact fun _ _ => (c_spec_l1In _ _ _)))); all_goals (first | (intros; omega) | exact rfl | exact El_all _ (by decide) | exact ⟨rfl, El_all _ (by decide)⟩ | ((intro h1; first | (intro h2; first | (intro h3; refine And.intro ?_ ?_) | refine And.intro ?_ ?_) | refine And.intro ?_ ?_) <;> first | omega | ((try simp only [nb, inr_t, inr_f] at *); (try simp (disch := omega) only [i64w]); omega)) | ((try simp only [nb, inr_t, inr_f] at *); (simp (disch := omega) only [i64w]); omega) | (refine fun _ => ?_; dsimp only [hyps, imps]; omega) | (refine fun _ _ => ?_; dsimp only [hyps, imps]; omega) | exact (u8w _).1 | exact (u8w _).2 | exact (u8n _).1 | exact (u8n _).2 | (simp only [byt, maxLen, lens]; omega) | (intros; simp only [nb] at *; omega))) ?_
  refine W.cond rfl (fun hb0 => ?_) (fun hb0 => ?_)
  · try simp only [nb, inr_t, inr_f, isEmpty_t] at hb0
    refine W.seq ?_
    refine W.reg X [] [] [8] [] rfl ⟨⟩ ?_
    refine W.ret ?_
    exact Fin.ret rfl ⟨by rw [mrow, if_neg (by omega)], ⟨⟩⟩
  · try simp only [nb, inr_t, inr_f, isEmpty_t] at hb0
    have hcs := cs_range (kh key [79, r, d]) 0
    refine W.skip ?_
    refine W.seq ?_
    refine W.reg X [] [(21, ⟨false, [.a (.lit (.int .i64 _))]⟩), (22, ⟨false, [.a (.lit (.int .i64 _))]⟩)] [8] [] rfl (by (repeat' (first | with_reducible exact AllP.nil | with_reducible refine AllP.mk ?_ ?_ | with_reducible apply And.intro)) <;> skip; (iterate 2 (all_goals try (first | exact (c_spec_KeyedHash _ _ (by first | assumption | omega | (simp; done) | (simp; omega))) | exact fun _ => (c_spec_KeyedHash _ _ (by first | assumption | omega | (simp; done) | (simp; omega))) | exact fun _ _ => (c_spec_KeyedHash _ _ (by first | assumption | omega | (simp; done) | (simp; omega))) | exact (c_spec_ChildSeed _ _) | exact fun _ => (c_spec_ChildSeed _ _) | exact fun _ _ => (c_spec_ChildSeed _ _)))); all_goals (first | (intros; omega) | exact rfl | exact El_all _ (by decide) | exact ⟨rfl, El_all _ (by decide)⟩ | ((intro h1; first | (intro h2; first | (intro h3; refine And.intro ?_ ?_) | refine And.intro ?_ ?_) | refine And.intro ?_ ?_) <;> first | omega | ((try simp only [nb, inr_t, inr_f] at *); (try simp (disch := omega) only [i64w]); omega)) | ((try simp only [nb, inr_t, inr_f] at *); (simp (disch := omega) only [i64w]); omega) | (refine fun _ => ?_; dsimp only [hyps, imps]; omega) | (refine fun _ _ => ?_; dsimp only [hyps, imps]; omega) | exact (u8w _).1 | exact (u8w _).2 | exact (u8n _).1 | exact (u8n _).2 | (simp only [byt, maxLen, lens]; omega) | (intros; simp only [nb] at *; omega))) ?_
    refine W.ret ?_
    exact Fin.ret rfl ⟨by rw [mrow, if_pos (by omega), tmod_pos hcs.1], ⟨⟩⟩
theorem c_impl_cellKey (k c : Int) : Sound ty Try.prog 160 [.a (.lit (.int .i64 k)), .a (.lit (.int .i64 c))] [.a (.lit (.int .i64 (ckey k c)))] := by
  refine Sound.of X Try.call160 Try.func160 rfl rfl (by decide) Try.ntmps160 (by simp) ?_
  intro zb
  refine W.seq ?_
  refine W.reg X [] [] [0, 1] [] rfl ⟨⟩ ?_
  refine W.seq ?_
  refine W.reg X [] [(8, ⟨false, [.a (.lit (.int .i64 _))]⟩), (9, ⟨false, [.a (.lit (.int .i64 _))]⟩)] [4] [] rfl (by (repeat' (first | with_reducible exact AllP.nil | with_reducible refine AllP.mk ?_ ?_ | with_reducible apply And.intro)) <;> skip; (iterate 2 (all_goals try (first | exact (c_impl_KeyedHash _ _ (by first | assumption | omega | (simp; done) | (simp; omega))) | exact fun _ => (c_impl_KeyedHash _ _ (by first | assumption | omega | (simp; done) | (simp; omega))) | exact fun _ _ => (c_impl_KeyedHash _ _ (by first | assumption | omega | (simp; done) | (simp; omega))) | exact (c_impl_orOne _) | exact fun _ => (c_impl_orOne _) | exact fun _ _ => (c_impl_orOne _)))); all_goals (first | (intros; omega) | exact rfl | exact El_all _ (by decide) | exact ⟨rfl, El_all _ (by decide)⟩ | ((intro h1; first | (intro h2; first | (intro h3; refine And.intro ?_ ?_) | refine And.intro ?_ ?_) | refine And.intro ?_ ?_) <;> first | omega | ((try simp only [nb, inr_t, inr_f] at *); (try simp (disch := omega) only [i64w]); omega)) | ((try simp only [nb, inr_t, inr_f] at *); (simp (disch := omega) only [i64w]); omega) | (refine fun _ => ?_; dsimp only [hyps, imps]; omega) | (refine fun _ _ => ?_; dsimp only [hyps, imps]; omega) | exact (u8w _).1 | exact (u8w _).2 | exact (u8n _).1 | exact (u8n _).2 | (simp only [byt, maxLen, lens]; omega) | (intros; simp only [nb] at *; omega))) ?_
  refine W.ret ?_
  exact Fin.ret rfl ⟨rfl, ⟨⟩⟩
theorem c_impl_DirectionKey (k c : Int) : Sound ty Try.prog 129 [.a (.lit (.int .i64 k)), .a (.lit (.int .i64 c))] [.a (.lit (.int .i64 (dkey k c)))] := by
  refine Sound.of X Try.call129 Try.func129 rfl rfl (by decide) Try.ntmps129 (by simp) ?_
  intro zb
  refine W.seq ?_
  refine W.reg X [] [] [0, 1] [] rfl ⟨⟩ ?_
  refine W.seq ?_
  refine W.reg X [] [(8, ⟨false, [.a (.lit (.int .i64 _))]⟩), (9, ⟨false, [.a (.lit (.int .i64 _))]⟩)] [4] [] rfl (by (repeat' (first | with_reducible exact AllP.nil | with_reducible refine AllP.mk ?_ ?_ | with_reducible apply And.intro)) <;> skip; (iterate 2 (all_goals try (first | exact (c_impl_KeyedHash _ _ (by first | assumption | omega | (simp; done) | (simp; omega))) | exact fun _ => (c_impl_KeyedHash _ _ (by first | assumption | omega | (simp; done) | (simp; omega))) | exact fun _ _ => (c_impl_KeyedHash _ _ (by first | assumption | omega | (simp; done) | (simp; omega))) | exact (c_impl_orOne _) | exact fun _ => (c_impl_orOne _) | exact fun _ _ => (c_impl_orOne _)))); all_goals (first | (intros; omega) | exact rfl | exact El_all _ (by decide) | exact ⟨rfl, El_all _ (by decide)⟩ | ((intro h1; first | (intro h2; first | (intro h3; refine And.intro ?_ ?_) | refine And.intro ?_ ?_) | refine And.intro ?_ ?_) <;> first | omega | ((try simp only [nb, inr_t, inr_f] at *); (try simp (disch := omega) only [i64w]); omega)) | ((try simp only [nb, inr_t, inr_f] at *); (simp (disch := omega) only [i64w]); omega) | (refine fun _ => ?_; dsimp only [hyps, imps]; omega) | (refine fun _ _ => ?_; dsimp only [hyps, imps]; omega) | exact (u8w _).1 | exact (u8w _).2 | exact (u8n _).1 | exact (u8n _).2 | (simp only [byt, maxLen, lens]; omega) | (intros; simp only [nb] at *; omega))) ?_
  refine W.ret ?_
  exact Fin.ret rfl ⟨rfl, ⟨⟩⟩
theorem c_spec_l13Cipher (k c : Int) : Sound ty Try.prog 153 [.a (.lit (.int .i64 k)), .a (.lit (.int .i64 c))] [.a (.lit (.int .i64 (ckey k c)))] := by
  refine Sound.of X Try.call153 Try.func153 rfl rfl (by decide) Try.ntmps153 (by simp) ?_
  intro zb
  refine W.seq ?_
  refine W.reg X [] [] [0, 1] [] rfl ⟨⟩ ?_
  refine W.seq ?_
  refine W.reg X [] [(8, ⟨false, [.a (.lit (.int .i64 _))]⟩), (9, ⟨false, [.a (.lit (.int .i64 _))]⟩)] [4] [] rfl (by (repeat' (first | with_reducible exact AllP.nil | with_reducible refine AllP.mk ?_ ?_ | with_reducible apply And.intro)) <;> skip; (iterate 2 (all_goals try (first | exact (c_spec_KeyedHash _ _ (by first | assumption | omega | (simp; done) | (simp; omega))) | exact fun _ => (c_spec_KeyedHash _ _ (by first | assumption | omega | (simp; done) | (simp; omega))) | exact fun _ _ => (c_spec_KeyedHash _ _ (by first | assumption | omega | (simp; done) | (simp; omega))) | exact (c_spec_Max _ _) | exact fun _ => (c_spec_Max _ _) | exact fun _ _ => (c_spec_Max _ _)))); all_goals (first | (intros; omega) | exact rfl | exact El_all _ (by decide) | exact ⟨rfl, El_all _ (by decide)⟩ | ((intro h1; first | (intro h2; first | (intro h3; refine And.intro ?_ ?_) | refine And.intro ?_ ?_) | refine And.intro ?_ ?_) <;> first | omega | ((try simp only [nb, inr_t, inr_f] at *); (try simp (disch := omega) only [i64w]); omega)) | ((try simp only [nb, inr_t, inr_f] at *); (simp (disch := omega) only [i64w]); omega) | (refine fun _ => ?_; dsimp only [hyps, imps]; omega) | (refine fun _ _ => ?_; dsimp only [hyps, imps]; omega) | exact (u8w _).1 | exact (u8w _).2 | exact (u8n _).1 | exact (u8n _).2 | (simp only [byt, maxLen, lens]; omega) | (intros; simp only [nb] at *; omega))) ?_
  refine W.ret ?_
  exact Fin.ret rfl ⟨by rw [or1_max (kh_range _ _).1]; rfl, ⟨⟩⟩
theorem c_spec_DirectionKey (k c : Int) : Sound ty Try.prog 124 [.a (.lit (.int .i64 k)), .a (.lit (.int .i64 c))] [.a (.lit (.int .i64 (dkey k c)))] := by
  refine Sound.of X Try.call124 Try.func124 rfl rfl (by decide) Try.ntmps124 (by simp) ?_
  intro zb
  refine W.seq ?_
  refine W.reg X [] [] [0, 1] [] rfl ⟨⟩ ?_
  refine W.seq ?_
  refine W.reg X [] [(8, ⟨false, [.a (.lit (.int .i64 _))]⟩), (9, ⟨false, [.a (.lit (.int .i64 _))]⟩)] [4] [] rfl (by (repeat' (first | with_reducible exact AllP.nil | with_reducible refine AllP.mk ?_ ?_ | with_reducible apply And.intro)) <;> skip; (iterate 2 (all_goals try (first | exact (c_spec_KeyedHash _ _ (by first | assumption | omega | (simp; done) | (simp; omega))) | exact fun _ => (c_spec_KeyedHash _ _ (by first | assumption | omega | (simp; done) | (simp; omega))) | exact fun _ _ => (c_spec_KeyedHash _ _ (by first | assumption | omega | (simp; done) | (simp; omega))) | exact (c_spec_Max _ _) | exact fun _ => (c_spec_Max _ _) | exact fun _ _ => (c_spec_Max _ _)))); all_goals (first | (intros; omega) | exact rfl | exact El_all _ (by decide) | exact ⟨rfl, El_all _ (by decide)⟩ | ((intro h1; first | (intro h2; first | (intro h3; refine And.intro ?_ ?_) | refine And.intro ?_ ?_) | refine And.intro ?_ ?_) <;> first | omega | ((try simp only [nb, inr_t, inr_f] at *); (try simp (disch := omega) only [i64w]); omega)) | ((try simp only [nb, inr_t, inr_f] at *); (simp (disch := omega) only [i64w]); omega) | (refine fun _ => ?_; dsimp only [hyps, imps]; omega) | (refine fun _ _ => ?_; dsimp only [hyps, imps]; omega) | exact (u8w _).1 | exact (u8w _).2 | exact (u8n _).1 | exact (u8n _).2 | (simp only [byt, maxLen, lens]; omega) | (intros; simp only [nb] at *; omega))) ?_
  refine W.ret ?_
  exact Fin.ret rfl ⟨by rw [or1_max (kh_range _ _).1]; rfl, ⟨⟩⟩
theorem c_impl_checkBytes (k c : Int) (l : List UInt8) (hl : l.length ≤ 65536) : Sound ty Try.prog 161 [.a (.lit (.int .i64 k)), .a (.lit (.int .i64 c)), .a (.sl .u8 l)] [.a (.sl .u8 (four (ccheck k c l)))] := by
  refine Sound.of X Try.call161 Try.func161 rfl rfl (by decide) Try.ntmps161 (by simp) ?_
  intro zb
  refine W.seq ?_
  refine W.reg X [] [] [0, 1, 2] [] rfl ⟨⟩ ?_
  refine W.seq ?_
  refine W.reg X [] [(11, ⟨false, [.a (.lit (.int .i64 _))]⟩)] [7] [] rfl (by (repeat' (first | with_reducible exact AllP.nil | with_reducible refine AllP.mk ?_ ?_ | with_reducible apply And.intro)) <;> skip; (iterate 1 (all_goals try (first | exact (c_impl_CellCheck _ _ _ (by first | assumption | omega | (simp; done) | (simp; omega))) | exact fun _ => (c_impl_CellCheck _ _ _ (by first | assumption | omega | (simp; done) | (simp; omega))) | exact fun _ _ => (c_impl_CellCheck _ _ _ (by first | assumption | omega | (simp; done) | (simp; omega)))))); all_goals (first | (intros; omega) | exact rfl | exact El_all _ (by decide) | exact ⟨rfl, El_all _ (by decide)⟩ | ((intro h1; first | (intro h2; first | (intro h3; refine And.intro ?_ ?_) | refine And.intro ?_ ?_) | refine And.intro ?_ ?_) <;> first | omega | ((try simp only [nb, inr_t, inr_f] at *); (try simp (disch := omega) only [i64w]); omega)) | ((try simp only [nb, inr_t, inr_f] at *); (simp (disch := omega) only [i64w]); omega) | (refine fun _ => ?_; dsimp only [hyps, imps]; omega) | (refine fun _ _ => ?_; dsimp only [hyps, imps]; omega) | exact (u8w _).1 | exact (u8w _).2 | exact (u8n _).1 | exact (u8n _).2 | (simp only [byt, maxLen, lens]; omega) | (intros; simp only [nb] at *; omega))) ?_
  refine W.seq ?_
  refine W.reg X [] [] [6] [] rfl (by (repeat' (first | exact True.intro | apply And.intro)) <;> first | (intros; omega) | exact rfl | exact El_all _ (by decide) | exact ⟨rfl, El_all _ (by decide)⟩ | ((intro h1; first | (intro h2; first | (intro h3; refine And.intro ?_ ?_) | refine And.intro ?_ ?_) | refine And.intro ?_ ?_) <;> first | omega | ((try simp only [nb, inr_t, inr_f] at *); (try simp (disch := omega) only [i64w]); omega)) | ((try simp only [nb, inr_t, inr_f] at *); (simp (disch := omega) only [i64w]); omega) | (refine fun _ => ?_; dsimp only [hyps, imps]; omega) | (refine fun _ _ => ?_; dsimp only [hyps, imps]; omega) | exact (u8w _).1 | exact (u8w _).2 | exact (u8n _).1 | exact (u8n _).2 | (simp only [byt, maxLen, lens]; omega) | (intros; simp only [nb] at *; omega)) ?_
  refine W.ret ?_
  exact Fin.ret rfl ⟨four_eq _, ⟨⟩⟩
end Go.Proofs.Ytfiaikmlnemnfaa.G
namespace Go.Proofs.Ytfiaikmlnemnfaa.G
set_option linter.all false
open Go.RowKit L D
set_option maxRecDepth 100000
theorem c_slices_IndexFunc_byte_byte (l : List (List UInt8)) (f : FuncId) (p : (List UInt8) → Bool) (hf : ∀ b, Sound ty Try.prog f [.a (.sl .u8 b)] [.a (.lit (.bool (p b)))]) : Sound ty Try.prog 185 [.a (.sl (.sl .u8) l), .a (.lit (.func (.func f) #[] #[]))] [.a (.lit (.int .i64 (fidx p l)))] := by
  refine Sound.of X Try.call185 Try.func185 rfl rfl (by decide) Try.ntmps185 (by simp) ?_
  intro zb
  refine W.bound 0 rfl (fun hll => ?_)
  refine W.seq ?_
  refine W.reg X [] [] [0, 1] [] rfl ⟨⟩ ?_
  refine W.seq ?_
  refine W.seq ?_
  refine W.reg X [] [] [0, 1, 7, 8] [] rfl ⟨⟩ ?_
  refine W.block ?_
  refine W.loopO (fun k => k ≤ l.length ∧ (l.take k).any p = false) (fun k : Nat => [(8, .one (.a (.lit (.int .i64 k))))]) (fun k => []) (fun k => l.length - k) 0 (fun k => rfl) ⟨Nat.zero_le _, rfl⟩ rfl ?_
  rintro k ⟨hk, hall⟩
  refine W.seq ?_
  refine W.reg X [] [] [0, 1, 7, 8, 9] [] rfl ⟨⟩ ?_
  refine W.seq ?_
  refine W.cond rfl (fun hb0 => ?_) (fun hb0 => ?_)
  · try simp only [nb, inr_t, inr_f, isEmpty_t] at hb0
    refine W.skip ?_
    refine W.seq ?_
    refine W.block ?_
    refine W.seq ?_
    refine W.reg X [] [] [0, 1, 5, 7, 8] [] rfl ⟨⟩ ?_
    refine W.seq ?_
    refine W.reg X [] [(16, ⟨false, [.a (.lit (.bool (p (l.getD k (dfl (.sl .u8))))))]⟩)] [0, 1, 5, 7, 8, 16] [] rfl (by (repeat' (first | with_reducible exact AllP.nil | with_reducible refine AllP.mk ?_ ?_ | with_reducible apply And.intro)) <;> skip; (iterate 1 (all_goals try (first | exact (hf _) | exact fun _ => (hf _) | exact fun _ _ => (hf _)))); all_goals (first | (intros; omega) | exact rfl | exact El_all _ (by decide) | exact ⟨rfl, El_all _ (by decide)⟩ | ((intro h1; first | (intro h2; first | (intro h3; refine And.intro ?_ ?_) | refine And.intro ?_ ?_) | refine And.intro ?_ ?_) <;> first | omega | ((try simp only [nb, inr_t, inr_f] at *); (try simp (disch := omega) only [i64w]); omega)) | ((try simp only [nb, inr_t, inr_f] at *); (simp (disch := omega) only [i64w]); omega) | (refine fun _ => ?_; dsimp only [hyps, imps]; omega) | (refine fun _ _ => ?_; dsimp only [hyps, imps]; omega) | exact (u8w _).1 | exact (u8w _).2 | exact (u8n _).1 | exact (u8n _).2 | (simp only [byt, maxLen, lens]; omega) | (intros; simp only [nb] at *; omega))) ?_
    refine W.cond rfl (fun hb1 => ?_) (fun hb1 => ?_)
    · skip
      refine W.seq ?_
      refine W.reg X [] [] [4] [] rfl ⟨⟩ ?_
      refine W.ret ?_
      exact Fin.ret rfl ⟨by rw [fidx_hit (dfl (.sl .u8)) hb0 hall hb1], ⟨⟩⟩
    · skip
      refine W.skip ?_
      refine W.reg X [] [] [0, 1, 7, 8] [] rfl ⟨⟩ ?_
      refine ⟨k + 1, ⟨by omega, any_no (dfl (.sl .u8)) hb0 hall hb1⟩, by omega, ?_⟩
      rw [wadd _ k rfl (by omega)]
      try rfl
  · try simp only [nb, inr_t, inr_f, isEmpty_t] at hb0
    refine W.exit ?_
    refine W.seq ?_
    refine W.reg X [] [] [4] [] rfl ⟨⟩ ?_
    refine W.ret ?_
    exact Fin.ret rfl ⟨by rw [fidx_miss (by rw [← hall, List.take_of_length_le hb0])], ⟨⟩⟩
theorem c_slices_ContainsFunc_byte_byte (l : List (List UInt8)) (f : FuncId) (p : (List UInt8) → Bool) (hf : ∀ b, Sound ty Try.prog f [.a (.sl .u8 b)] [.a (.lit (.bool (p b)))]) : Sound ty Try.prog 174 [.a (.sl (.sl .u8) l), .a (.lit (.func (.func f) #[] #[]))] [.a (.lit (.bool (l.any p)))] := by
  refine Sound.of X Try.call174 Try.func174 rfl rfl (by decide) Try.ntmps174 (by simp) ?_
  intro zb
  refine W.seq ?_
  refine W.reg X [] [] [0, 1] [] rfl ⟨⟩ ?_
  refine W.seq ?_
  refine W.reg X [] [(7, ⟨false, [.a (.lit (.int .i64 (fidx p l)))]⟩)] [4] [] rfl (by (repeat' (first | with_reducible exact AllP.nil | with_reducible refine AllP.mk ?_ ?_ | with_reducible apply And.intro)) <;> skip; (iterate 1 (all_goals try (first | exact (c_slices_IndexFunc_byte_byte l f p hf) | exact fun _ => (c_slices_IndexFunc_byte_byte l f p hf) | exact fun _ _ => (c_slices_IndexFunc_byte_byte l f p hf)))); all_goals (first | (intros; omega) | exact rfl | exact El_all _ (by decide) | exact ⟨rfl, El_all _ (by decide)⟩ | ((intro h1; first | (intro h2; first | (intro h3; refine And.intro ?_ ?_) | refine And.intro ?_ ?_) | refine And.intro ?_ ?_) <;> first | omega | ((try simp only [nb, inr_t, inr_f] at *); (try simp (disch := omega) only [i64w]); omega)) | ((try simp only [nb, inr_t, inr_f] at *); (simp (disch := omega) only [i64w]); omega) | (refine fun _ => ?_; dsimp only [hyps, imps]; omega) | (refine fun _ _ => ?_; dsimp only [hyps, imps]; omega) | exact (u8w _).1 | exact (u8w _).2 | exact (u8n _).1 | exact (u8n _).2 | (simp only [byt, maxLen, lens]; omega) | (intros; simp only [nb] at *; omega))) ?_
  refine W.ret ?_
  exact Fin.ret rfl ⟨congrArg Value.bool (fidx_ge p l), ⟨⟩⟩
theorem c_impl_IsValidDatabase_1 (b : List UInt8) : Sound ty Try.prog 175 [.a (.sl .u8 b)] [.a (.lit (.bool (!decide ((b.length : Int) = 24))))] := by
  refine Sound.of X Try.call175 Try.func175 rfl rfl (by decide) Try.ntmps175 (by simp) ?_
  intro zb
  refine W.seq ?_
  refine W.reg X [] [] [0] [] rfl ⟨⟩ ?_
  refine W.seq ?_
  refine W.reg X [] [] [2] [] rfl ⟨⟩ ?_
  refine W.ret ?_
  exact Fin.ret rfl ⟨(congrArg Value.bool (by simp only [ite_tt, ite_ff, gt_iff_lt, ge_iff_le, not_dlt, not_dle, bne_not, deq, decide_not, ne_eq, Bool.not_and, Bool.not_or, Bool.not_not, Bool.and_true, Bool.true_and, Bool.or_false, Bool.false_or, Int.toNat_natCast] <;> first | rfl | ac_rfl)), ⟨⟩⟩
theorem c_impl_IsValidDatabase (d : DB) : Sound ty Try.prog 146 [.agg (dec_DB d)] [.a (.lit (.bool (okDB d)))] := by
  refine Sound.of X Try.call146 Try.func146 rfl rfl (by decide) Try.ntmps146 (by simp) ?_
  intro zb
  refine W.seq ?_
  refine W.reg X [] [] [1] [] rfl ⟨⟩ ?_
  refine W.seq ?_
  refine W.reg X [] [(10, ⟨false, [.a (.lit (.bool (d.rows.any fun b => !decide ((b.length : Int) = 24))))]⟩)] [2] [] rfl (by (repeat' (first | with_reducible exact AllP.nil | with_reducible refine AllP.mk ?_ ?_ | with_reducible apply And.intro)) <;> skip; (iterate 1 (all_goals try (first | exact (c_slices_ContainsFunc_byte_byte _ _ _ c_impl_IsValidDatabase_1) | exact fun _ => (c_slices_ContainsFunc_byte_byte _ _ _ c_impl_IsValidDatabase_1) | exact fun _ _ => (c_slices_ContainsFunc_byte_byte _ _ _ c_impl_IsValidDatabase_1)))); all_goals (first | (intros; omega) | exact rfl | exact El_all _ (by decide) | exact ⟨rfl, El_all _ (by decide)⟩ | ((intro h1; first | (intro h2; first | (intro h3; refine And.intro ?_ ?_) | refine And.intro ?_ ?_) | refine And.intro ?_ ?_) <;> first | omega | ((try simp only [nb, inr_t, inr_f] at *); (try simp (disch := omega) only [i64w]); omega)) | ((try simp only [nb, inr_t, inr_f] at *); (simp (disch := omega) only [i64w]); omega) | (refine fun _ => ?_; dsimp only [hyps, imps]; omega) | (refine fun _ _ => ?_; dsimp only [hyps, imps]; omega) | exact (u8w _).1 | exact (u8w _).2 | exact (u8n _).1 | exact (u8n _).2 | (simp only [byt, maxLen, lens]; omega) | (intros; simp only [nb] at *; omega))) ?_
  refine W.ret ?_
  exact Fin.ret rfl ⟨by unfold okDB; rw [any_not_all]; by_cases h : (d.rows.length : Int) ≤ 64 <;> simp [h], ⟨⟩⟩
theorem c_spec_IsValidDatabase (d : DB) : Sound ty Try.prog 145 [.agg (dec_DB d)] [.a (.lit (.bool (okDB d)))] := by
  refine Sound.of X Try.call145 Try.func145 rfl rfl (by decide) Try.ntmps145 (by simp) ?_
  intro zb
  refine W.boundA 0 0 rfl rfl (fun hll => ?_)
  refine W.seq ?_
  refine W.reg X [] [] [1] [] rfl ⟨⟩ ?_
  refine W.seq ?_
  refine W.seq ?_
  refine W.reg X [] [] [1, 3] [] rfl ⟨⟩ ?_
  refine W.block ?_
  refine W.loopO (fun k => k ≤ d.rows.length ∧ (d.rows.take k).all (fun r => decide ((r.length : Int) = 24)) = true) (fun k : Nat => [(3, .one (.a (.lit (.int .i64 k))))]) (fun k => []) (fun k => d.rows.length - k) 0 (fun k => rfl) ⟨Nat.zero_le _, rfl⟩ rfl ?_
  rintro k ⟨hk, hall⟩
  refine W.seq ?_
  refine W.seq ?_
  refine W.reg X [] [] [1, 3, 8] [] rfl ⟨⟩ ?_
  refine W.cond rfl (fun hb0 => ?_) (fun hb0 => ?_)
  · try simp only [nb, inr_t, inr_f, isEmpty_t] at hb0
    refine W.skip ?_
    refine W.seq ?_
    refine W.block ?_
    refine W.seq ?_
    refine W.reg X [] [] [1, 3, 17] [] rfl (by (repeat' (first | exact True.intro | apply And.intro)) <;> first | (intros; omega) | exact rfl | exact El_all _ (by decide) | exact ⟨rfl, El_all _ (by decide)⟩ | ((intro h1; first | (intro h2; first | (intro h3; refine And.intro ?_ ?_) | refine And.intro ?_ ?_) | refine And.intro ?_ ?_) <;> first | omega | ((try simp only [nb, inr_t, inr_f] at *); (try simp (disch := omega) only [i64w]); omega)) | ((try simp only [nb, inr_t, inr_f] at *); (simp (disch := omega) only [i64w]); omega) | (refine fun _ => ?_; dsimp only [hyps, imps]; omega) | (refine fun _ _ => ?_; dsimp only [hyps, imps]; omega) | exact (u8w _).1 | exact (u8w _).2 | exact (u8n _).1 | exact (u8n _).2 | (simp only [byt, maxLen, lens]; omega) | (intros; simp only [nb] at *; omega)) ?_
    refine W.cond rfl (fun hb1 => ?_) (fun hb1 => ?_)
    · try simp only [nb, inr_t, inr_f, isEmpty_t] at hb1
      refine W.seq ?_
      refine W.reg X [] [] [2] [] rfl ⟨⟩ ?_
      refine W.ret ?_
      exact Fin.ret rfl ⟨by unfold okDB; rw [all_no _ _ (dfl (.sl .u8)) k hb0 (by simpa using hb1)]; simp, ⟨⟩⟩
    · try simp only [nb, inr_t, inr_f, isEmpty_t] at hb1
      refine W.skip ?_
      refine W.reg X [] [] [1, 3] [] rfl ⟨⟩ ?_
      refine ⟨k + 1, ⟨by omega, by rw [all_snoc _ _ _ (dfl (.sl .u8)) hb0, hall]; simpa using hb1⟩, by omega, ?_⟩
      rw [wadd _ k rfl (by omega)]
      try rfl
  · try simp only [nb, inr_t, inr_f, isEmpty_t] at hb0
    refine W.exit ?_
    refine W.seq ?_
    refine W.reg X [] [] [2] [] rfl ⟨⟩ ?_
    refine W.ret ?_
    exact Fin.ret rfl ⟨by rw [List.take_of_length_le hb0] at hall; unfold okDB; rw [hall]; simp, ⟨⟩⟩
theorem c_impl_LastRound (a : Arc) : Sound ty Try.prog 117 [.agg (dec_Arc a)] [.a (.lit (.int .i64 (lastR a)))] := by
  refine Sound.of X Try.call117 Try.func117 rfl rfl (by decide) Try.ntmps117 (by simp) ?_
  intro zb
  refine W.boundA 0 1 rfl rfl (fun hll => ?_)
  refine W.seq ?_
  refine W.reg X [] [] [1] [] rfl ⟨⟩ ?_
  refine W.seq ?_
  refine W.seq ?_
  refine W.reg X [] [] [1, 6] [] rfl ⟨⟩ ?_
  refine W.cond rfl (fun hb0 => ?_) (fun hb0 => ?_)
  · try simp only [nb, inr_t, inr_f, isEmpty_t] at hb0
    refine W.seq ?_
    refine W.reg X [] [] [2] [] rfl ⟨⟩ ?_
    refine W.ret ?_
    exact Fin.ret rfl ⟨by rw [lastR, if_pos (by omega)], ⟨⟩⟩
  · try simp only [nb, inr_t, inr_f, isEmpty_t] at hb0
    refine W.skip ?_
    refine W.seq ?_
    refine W.reg X [] [] [2] [] rfl (by (repeat' (first | exact True.intro | apply And.intro)) <;> first | (intros; omega) | exact rfl | exact El_all _ (by decide) | exact ⟨rfl, El_all _ (by decide)⟩ | ((intro h1; first | (intro h2; first | (intro h3; refine And.intro ?_ ?_) | refine And.intro ?_ ?_) | refine And.intro ?_ ?_) <;> first | omega | ((try simp only [nb, inr_t, inr_f] at *); (try simp (disch := omega) only [i64w]); omega)) | ((try simp only [nb, inr_t, inr_f] at *); (simp (disch := omega) only [i64w]); omega) | (refine fun _ => ?_; dsimp only [hyps, imps]; omega) | (refine fun _ _ => ?_; dsimp only [hyps, imps]; omega) | exact (u8w _).1 | exact (u8w _).2 | exact (u8n _).1 | exact (u8n _).2 | (simp only [byt, maxLen, lens]; omega) | (intros; simp only [nb] at *; omega)) ?_
    refine W.ret ?_
    exact Fin.ret rfl ⟨by rw [lastR, if_neg (by omega), i64w (by omega)]; congr 4; omega, ⟨⟩⟩
theorem c_spec_LastRound (a : Arc) : Sound ty Try.prog 113 [.agg (dec_Arc a)] [.a (.lit (.int .i64 (lastR a)))] := by
  refine Sound.of X Try.call113 Try.func113 rfl rfl (by decide) Try.ntmps113 (by simp) ?_
  intro zb
  refine W.boundA 0 1 rfl rfl (fun hll => ?_)
  refine W.seq ?_
  refine W.reg X [] [] [1] [] rfl ⟨⟩ ?_
  refine W.seq ?_
  refine W.seq ?_
  refine W.reg X [] [] [1, 6] [] rfl ⟨⟩ ?_
  refine W.cond rfl (fun hb0 => ?_) (fun hb0 => ?_)
  · try simp only [nb, inr_t, inr_f, isEmpty_t] at hb0
    refine W.seq ?_
    refine W.reg X [] [] [2] [] rfl ⟨⟩ ?_
    refine W.ret ?_
    exact Fin.ret rfl ⟨by rw [lastR, if_pos (by omega)], ⟨⟩⟩
  · try simp only [nb, inr_t, inr_f, isEmpty_t] at hb0
    refine W.skip ?_
    refine W.seq ?_
    refine W.reg X [] [] [2] [] rfl (by (repeat' (first | exact True.intro | apply And.intro)) <;> first | (intros; omega) | exact rfl | exact El_all _ (by decide) | exact ⟨rfl, El_all _ (by decide)⟩ | ((intro h1; first | (intro h2; first | (intro h3; refine And.intro ?_ ?_) | refine And.intro ?_ ?_) | refine And.intro ?_ ?_) <;> first | omega | ((try simp only [nb, inr_t, inr_f] at *); (try simp (disch := omega) only [i64w]); omega)) | ((try simp only [nb, inr_t, inr_f] at *); (simp (disch := omega) only [i64w]); omega) | (refine fun _ => ?_; dsimp only [hyps, imps]; omega) | (refine fun _ _ => ?_; dsimp only [hyps, imps]; omega) | exact (u8w _).1 | exact (u8w _).2 | exact (u8n _).1 | exact (u8n _).2 | (simp only [byt, maxLen, lens]; omega) | (intros; simp only [nb] at *; omega)) ?_
    refine W.ret ?_
    exact Fin.ret rfl ⟨by rw [lastR, if_neg (by omega), i64w (by omega)]; congr 4; omega, ⟨⟩⟩
theorem c_impl_IsValidServer (s : Srv) : Sound ty Try.prog 119 [.agg (dec_Srv s)] [.a (.lit (.bool (okSrv s)))] := by
  refine Sound.of X Try.call119 Try.func119 rfl rfl (by decide) Try.ntmps119 (by simp) ?_
  intro zb
  refine W.boundA 0 3 rfl rfl (fun hll => ?_)
  refine W.seq ?_
  refine W.reg X [] [] [1] [] rfl ⟨⟩ ?_
  refine W.seq ?_
  refine W.seq ?_
  refine W.reg X [] [(7, ⟨false, [.a (.lit (.bool (inr s.id 0 3)))]⟩), (12, ⟨false, [.a (.lit (.bool (inr s.rows 1 64)))]⟩), (18, ⟨false, [.a (.lit (.bool (inr s.behavior 0 3)))]⟩), (24, ⟨false, [.a (.lit (.bool (inr s.round 0 100000)))]⟩)] [1, 32] [] rfl (by (repeat' (first | with_reducible exact AllP.nil | with_reducible refine AllP.mk ?_ ?_ | with_reducible apply And.intro)) <;> skip; (iterate 4 (all_goals try (first | exact (c_impl_InRange s.id 0 3) | exact fun _ => (c_impl_InRange s.id 0 3) | exact fun _ _ => (c_impl_InRange s.id 0 3) | exact (c_impl_InRange s.rows 1 64) | exact fun _ => (c_impl_InRange s.rows 1 64) | exact fun _ _ => (c_impl_InRange s.rows 1 64) | exact (c_impl_InRange s.behavior 0 3) | exact fun _ => (c_impl_InRange s.behavior 0 3) | exact fun _ _ => (c_impl_InRange s.behavior 0 3) | exact (c_impl_InRange s.round 0 100000) | exact fun _ => (c_impl_InRange s.round 0 100000) | exact fun _ _ => (c_impl_InRange s.round 0 100000)))); all_goals (first | (intros; omega) | exact rfl | exact El_all _ (by decide) | exact ⟨rfl, El_all _ (by decide)⟩ | ((intro h1; first | (intro h2; first | (intro h3; refine And.intro ?_ ?_) | refine And.intro ?_ ?_) | refine And.intro ?_ ?_) <;> first | omega | ((try simp only [nb, inr_t, inr_f] at *); (try simp (disch := omega) only [i64w]); omega)) | ((try simp only [nb, inr_t, inr_f] at *); (simp (disch := omega) only [i64w]); omega) | (refine fun _ => ?_; dsimp only [hyps, imps]; omega) | (refine fun _ _ => ?_; dsimp only [hyps, imps]; omega) | exact (u8w _).1 | exact (u8w _).2 | exact (u8n _).1 | exact (u8n _).2 | (simp only [byt, maxLen, lens]; omega) | (intros; simp only [nb] at *; omega))) ?_
  refine W.cond rfl (fun hb0 => ?_) (fun hb0 => ?_)
  · skip
    refine W.seq ?_
    refine W.reg X [] [] [2] [] rfl ⟨⟩ ?_
    refine W.ret ?_
    exact Fin.ret rfl ⟨by rw [show okSrv s = false from or_no hb0 (by simp only [hdSrv, ite_tt, ite_ff, gt_iff_lt, ge_iff_le, not_dlt, not_dle, bne_not, deq, decide_not, ne_eq, Bool.not_and, Bool.not_or, Bool.not_not, Bool.and_true, Bool.true_and, Bool.or_false, Bool.false_or, Int.toNat_natCast] <;> first | rfl | ac_rfl)], ⟨⟩⟩
  · have hh : hdSrv s = true := or_yes hb0 (by simp only [hdSrv, ite_tt, ite_ff, gt_iff_lt, ge_iff_le, not_dlt, not_dle, bne_not, deq, decide_not, ne_eq, Bool.not_and, Bool.not_or, Bool.not_not, Bool.and_true, Bool.true_and, Bool.or_false, Bool.false_or, Int.toNat_natCast] <;> first | rfl | ac_rfl)
    refine W.skip ?_
    refine W.seq ?_
    refine W.seq ?_
    refine W.reg X [] [] [1, 34, 35, 36] [] rfl ⟨⟩ ?_
    refine W.block ?_
    refine W.loopO (fun k => k ≤ s.received.length ∧ (List.range k).all (okRec s.rows s.received) = true) (fun k : Nat => [(36, .one (.a (.lit (.int .i64 k))))]) (fun k => []) (fun k => s.received.length - k) 0 (fun k => rfl) ⟨Nat.zero_le _, rfl⟩ rfl ?_
    rintro k ⟨hk, hall⟩
    have hw : (IntKind.i64.wrap ((k : Int) - 1)).toNat = k - 1 := by rw [i64w (by omega)]; omega
    refine W.seq ?_
    refine W.reg X [] [] [1, 34, 35, 36, 37] [] rfl ⟨⟩ ?_
    refine W.seq ?_
    refine W.cond rfl (fun hb1 => ?_) (fun hb1 => ?_)
    · try simp only [nb, inr_t, inr_f, isEmpty_t] at hb1
      refine W.skip ?_
      refine W.seq ?_
      refine W.block ?_
      refine W.seq ?_
      refine W.reg X [] [] [1, 3, 4, 34, 35, 36] [] rfl (by (repeat' (first | exact True.intro | apply And.intro)) <;> first | (intros; omega) | exact rfl | exact El_all _ (by decide) | exact ⟨rfl, El_all _ (by decide)⟩ | ((intro h1; first | (intro h2; first | (intro h3; refine And.intro ?_ ?_) | refine And.intro ?_ ?_) | refine And.intro ?_ ?_) <;> first | omega | ((try simp only [nb, inr_t, inr_f] at *); (try simp (disch := omega) only [i64w]); omega)) | ((try simp only [nb, inr_t, inr_f] at *); (simp (disch := omega) only [i64w]); omega) | (refine fun _ => ?_; dsimp only [hyps, imps]; omega) | (refine fun _ _ => ?_; dsimp only [hyps, imps]; omega) | exact (u8w _).1 | exact (u8w _).2 | exact (u8n _).1 | exact (u8n _).2 | (simp only [byt, maxLen, lens]; omega) | (intros; simp only [nb] at *; omega)) ?_
      refine W.seq ?_
      refine W.draw X [] [(43, ⟨false, [.a (.lit (.bool (inr ((s.received.getD k (dfl .RShare)).client) 0 7)))]⟩), (64, ⟨false, [.a (.lit (.bool (okDB ((s.received.getD k (dfl .RShare)).share))))]⟩)] [1, 34, 35, 36, 75] [] 35 MO (by kernel_rfl) rfl (by (repeat' (first | with_reducible exact AllP.nil | with_reducible refine AllP.mk ?_ ?_ | with_reducible apply And.intro)) <;> skip; (iterate 2 (all_goals try (first | exact (c_impl_InRange ((s.received.getD k (dfl .RShare)).client) 0 7) | exact fun _ => (c_impl_InRange ((s.received.getD k (dfl .RShare)).client) 0 7) | exact fun _ _ => (c_impl_InRange ((s.received.getD k (dfl .RShare)).client) 0 7) | exact (c_impl_IsValidDatabase ((s.received.getD k (dfl .RShare)).share)) | exact fun _ => (c_impl_IsValidDatabase ((s.received.getD k (dfl .RShare)).share)) | exact fun _ _ => (c_impl_IsValidDatabase ((s.received.getD k (dfl .RShare)).share))))); all_goals (first | (intros; omega) | exact rfl | exact El_all _ (by decide) | exact ⟨rfl, El_all _ (by decide)⟩ | ((intro h1; first | (intro h2; first | (intro h3; refine And.intro ?_ ?_) | refine And.intro ?_ ?_) | refine And.intro ?_ ?_) <;> first | omega | ((try simp only [nb, inr_t, inr_f] at *); (try simp (disch := omega) only [i64w]); omega)) | ((try simp only [nb, inr_t, inr_f] at *); (simp (disch := omega) only [i64w]); omega) | (refine fun _ => ?_; dsimp only [hyps, imps]; omega) | (refine fun _ _ => ?_; dsimp only [hyps, imps]; omega) | exact (u8w _).1 | exact (u8w _).2 | exact (u8n _).1 | exact (u8n _).2 | (simp only [byt, maxLen, lens]; omega) | (intros; simp only [nb] at *; omega))) ?_
      refine W.cond rfl (fun hb2 => ?_) (fun hb2 => ?_)
      · have hk2 : okRec s.rows s.received k = false := or_no1 hb2 (by simp only [hw, okRec, ite_tt, ite_ff, gt_iff_lt, ge_iff_le, not_dlt, not_dle, bne_not, deq, decide_not, ne_eq, Bool.not_and, Bool.not_or, Bool.not_not, Bool.and_true, Bool.true_and, Bool.or_false, Bool.false_or, Int.toNat_natCast] <;> first | rfl | ac_rfl)
        refine W.seq ?_
        refine W.reg X [] [] [2] [] rfl ⟨⟩ ?_
        refine W.ret ?_
        exact Fin.ret rfl ⟨by rw [show okSrv s = false by unfold okSrv; rw [range_no hb1 hk2]; simp], ⟨⟩⟩
      · have hk2 : okRec s.rows s.received k = true := or_yes hb2 (by simp only [hw, okRec, ite_tt, ite_ff, gt_iff_lt, ge_iff_le, not_dlt, not_dle, bne_not, deq, decide_not, ne_eq, Bool.not_and, Bool.not_or, Bool.not_not, Bool.and_true, Bool.true_and, Bool.or_false, Bool.false_or, Int.toNat_natCast] <;> first | rfl | ac_rfl)
        refine W.skip ?_
        refine W.reg X [] [] [1, 34, 35, 36] [] rfl ⟨⟩ ?_
        refine ⟨k + 1, ⟨by omega, range_all hall hk2⟩, by omega, ?_⟩
        rw [wadd _ k rfl (by omega)]
        try rfl
    · try simp only [nb, inr_t, inr_f, isEmpty_t] at hb1
      have hall2 : (List.range s.received.length).all (okRec s.rows s.received) = true := by rw [show s.received.length = k by omega]; exact hall
      refine W.exit ?_
      refine W.seq ?_
      refine W.reg X [] [] [2] [] rfl ⟨⟩ ?_
      refine W.ret ?_
      exact Fin.ret rfl ⟨by rw [show okSrv s = true by unfold okSrv; rw [hh, hall2]; rfl], ⟨⟩⟩
theorem c_impl_IsValidArchive (a : Arc) : Sound ty Try.prog 116 [.agg (dec_Arc a)] [.a (.lit (.bool (okArc a)))] := by
  refine Sound.of X Try.call116 Try.func116 rfl rfl (by decide) Try.ntmps116 (by simp) ?_
  intro zb
  refine W.boundA 0 1 rfl rfl (fun hll => ?_)
  refine W.seq ?_
  refine W.reg X [] [] [1] [] rfl ⟨⟩ ?_
  refine W.seq ?_
  refine W.seq ?_
  refine W.reg X [] [] [1, 6, 7, 8] [] rfl ⟨⟩ ?_
  refine W.block ?_
  refine W.loopO (fun k => k ≤ a.rounds.length ∧ (List.range k).all (okAr a.rows a.rounds) = true) (fun k : Nat => [(8, .one (.a (.lit (.int .i64 k))))]) (fun k => []) (fun k => a.rounds.length - k) 0 (fun k => rfl) ⟨Nat.zero_le _, rfl⟩ rfl ?_
  rintro k ⟨hk, hall⟩
  have hw : (IntKind.i64.wrap ((k : Int) - 1)).toNat = k - 1 := by rw [i64w (by omega)]; omega
  refine W.seq ?_
  refine W.reg X [] [] [1, 6, 7, 8, 9] [] rfl ⟨⟩ ?_
  refine W.seq ?_
  refine W.cond rfl (fun hb0 => ?_) (fun hb0 => ?_)
  · try simp only [nb, inr_t, inr_f, isEmpty_t] at hb0
    refine W.skip ?_
    refine W.seq ?_
    refine W.block ?_
    refine W.seq ?_
    refine W.reg X [] [] [1, 3, 4, 6, 7, 8] [] rfl (by (repeat' (first | exact True.intro | apply And.intro)) <;> first | (intros; omega) | exact rfl | exact El_all _ (by decide) | exact ⟨rfl, El_all _ (by decide)⟩ | ((intro h1; first | (intro h2; first | (intro h3; refine And.intro ?_ ?_) | refine And.intro ?_ ?_) | refine And.intro ?_ ?_) <;> first | omega | ((try simp only [nb, inr_t, inr_f] at *); (try simp (disch := omega) only [i64w]); omega)) | ((try simp only [nb, inr_t, inr_f] at *); (simp (disch := omega) only [i64w]); omega) | (refine fun _ => ?_; dsimp only [hyps, imps]; omega) | (refine fun _ _ => ?_; dsimp only [hyps, imps]; omega) | exact (u8w _).1 | exact (u8w _).2 | exact (u8n _).1 | exact (u8n _).2 | (simp only [byt, maxLen, lens]; omega) | (intros; simp only [nb] at *; omega)) ?_
    refine W.seq ?_
    refine W.draw X [] [(15, ⟨false, [.a (.lit (.bool (inr ((a.rounds.getD k (dfl .ARound)).round) 0 100000)))]⟩), (36, ⟨false, [.a (.lit (.bool (okDB ((a.rounds.getD k (dfl .ARound)).db))))]⟩)] [1, 6, 7, 8, 47] [] 35 MO (by kernel_rfl) rfl (by (repeat' (first | with_reducible exact AllP.nil | with_reducible refine AllP.mk ?_ ?_ | with_reducible apply And.intro)) <;> skip; (iterate 2 (all_goals try (first | exact (c_impl_InRange ((a.rounds.getD k (dfl .ARound)).round) 0 100000) | exact fun _ => (c_impl_InRange ((a.rounds.getD k (dfl .ARound)).round) 0 100000) | exact fun _ _ => (c_impl_InRange ((a.rounds.getD k (dfl .ARound)).round) 0 100000) | exact (c_impl_IsValidDatabase ((a.rounds.getD k (dfl .ARound)).db)) | exact fun _ => (c_impl_IsValidDatabase ((a.rounds.getD k (dfl .ARound)).db)) | exact fun _ _ => (c_impl_IsValidDatabase ((a.rounds.getD k (dfl .ARound)).db))))); all_goals (first | (intros; omega) | exact rfl | exact El_all _ (by decide) | exact ⟨rfl, El_all _ (by decide)⟩ | ((intro h1; first | (intro h2; first | (intro h3; refine And.intro ?_ ?_) | refine And.intro ?_ ?_) | refine And.intro ?_ ?_) <;> first | omega | ((try simp only [nb, inr_t, inr_f] at *); (try simp (disch := omega) only [i64w]); omega)) | ((try simp only [nb, inr_t, inr_f] at *); (simp (disch := omega) only [i64w]); omega) | (refine fun _ => ?_; dsimp only [hyps, imps]; omega) | (refine fun _ _ => ?_; dsimp only [hyps, imps]; omega) | exact (u8w _).1 | exact (u8w _).2 | exact (u8n _).1 | exact (u8n _).2 | (simp only [byt, maxLen, lens]; omega) | (intros; simp only [nb] at *; omega))) ?_
    refine W.cond rfl (fun hb1 => ?_) (fun hb1 => ?_)
    · have hk2 : okAr a.rows a.rounds k = false := or_no1 hb1 (by simp only [hw, okAr, ite_tt, ite_ff, gt_iff_lt, ge_iff_le, not_dlt, not_dle, bne_not, deq, decide_not, ne_eq, Bool.not_and, Bool.not_or, Bool.not_not, Bool.and_true, Bool.true_and, Bool.or_false, Bool.false_or, Int.toNat_natCast] <;> first | rfl | ac_rfl)
      refine W.seq ?_
      refine W.reg X [] [] [2] [] rfl ⟨⟩ ?_
      refine W.ret ?_
      exact Fin.ret rfl ⟨by rw [show okArc a = false by unfold okArc; rw [range_no hb0 hk2]; simp], ⟨⟩⟩
    · have hk2 : okAr a.rows a.rounds k = true := or_yes hb1 (by simp only [hw, okAr, ite_tt, ite_ff, gt_iff_lt, ge_iff_le, not_dlt, not_dle, bne_not, deq, decide_not, ne_eq, Bool.not_and, Bool.not_or, Bool.not_not, Bool.and_true, Bool.true_and, Bool.or_false, Bool.false_or, Int.toNat_natCast] <;> first | rfl | ac_rfl)
      refine W.skip ?_
      refine W.reg X [] [] [1, 6, 7, 8] [] rfl ⟨⟩ ?_
      refine ⟨k + 1, ⟨by omega, range_all hall hk2⟩, by omega, ?_⟩
      rw [wadd _ k rfl (by omega)]
      try rfl
  · try simp only [nb, inr_t, inr_f, isEmpty_t] at hb0
    have hall2 : (List.range a.rounds.length).all (okAr a.rows a.rounds) = true := by rw [show a.rounds.length = k by omega]; exact hall
    refine W.exit ?_
    refine W.seq ?_
    refine W.reg X [] [(51, ⟨false, [.a (.lit (.bool (inr a.rows 1 64)))]⟩)] [2] [] rfl (by (repeat' (first | with_reducible exact AllP.nil | with_reducible refine AllP.mk ?_ ?_ | with_reducible apply And.intro)) <;> skip; (iterate 1 (all_goals try (first | exact (c_impl_InRange a.rows 1 64) | exact fun _ => (c_impl_InRange a.rows 1 64) | exact fun _ _ => (c_impl_InRange a.rows 1 64)))); all_goals (first | (intros; omega) | exact rfl | exact El_all _ (by decide) | exact ⟨rfl, El_all _ (by decide)⟩ | ((intro h1; first | (intro h2; first | (intro h3; refine And.intro ?_ ?_) | refine And.intro ?_ ?_) | refine And.intro ?_ ?_) <;> first | omega | ((try simp only [nb, inr_t, inr_f] at *); (try simp (disch := omega) only [i64w]); omega)) | ((try simp only [nb, inr_t, inr_f] at *); (simp (disch := omega) only [i64w]); omega) | (refine fun _ => ?_; dsimp only [hyps, imps]; omega) | (refine fun _ _ => ?_; dsimp only [hyps, imps]; omega) | exact (u8w _).1 | exact (u8w _).2 | exact (u8n _).1 | exact (u8n _).2 | (simp only [byt, maxLen, lens]; omega) | (intros; simp only [nb] at *; omega))) ?_
    refine W.ret ?_
    exact Fin.ret rfl ⟨(congrArg Value.bool (by simp only [okArc, hdArc, hall2, ite_tt, ite_ff, gt_iff_lt, ge_iff_le, not_dlt, not_dle, bne_not, deq, decide_not, ne_eq, Bool.not_and, Bool.not_or, Bool.not_not, Bool.and_true, Bool.true_and, Bool.or_false, Bool.false_or, Int.toNat_natCast] <;> first | rfl | ac_rfl)), ⟨⟩⟩
theorem c_spec_IsValidServer (s : Srv) : Sound ty Try.prog 142 [.agg (dec_Srv s)] [.a (.lit (.bool (okSrv s)))] := by
  refine Sound.of X Try.call142 Try.func142 rfl rfl (by decide) Try.ntmps142 (by simp) ?_
  intro zb
  refine W.boundA 0 3 rfl rfl (fun hll => ?_)
  refine W.seq ?_
  refine W.reg X [] [] [1] [] rfl ⟨⟩ ?_
  refine W.seq ?_
  refine W.seq ?_
  refine W.reg X [] [] [1, 3] [] rfl ⟨⟩ ?_
  refine W.block ?_
  refine W.loopO (fun k => k ≤ s.received.length ∧ (List.range k).all (okRec s.rows s.received) = true) (fun k : Nat => [(3, .one (.a (.lit (.int .i64 k))))]) (fun k => []) (fun k => s.received.length - k) 0 (fun k => rfl) ⟨Nat.zero_le _, rfl⟩ rfl ?_
  rintro k ⟨hk, hall⟩
  have hw : (IntKind.i64.wrap ((k : Int) - 1)).toNat = k - 1 := by rw [i64w (by omega)]; omega
  refine W.seq ?_
  refine W.seq ?_
  refine W.reg X [] [] [1, 3, 9] [] rfl ⟨⟩ ?_
  refine W.cond rfl (fun hb0 => ?_) (fun hb0 => ?_)
  · try simp only [nb, inr_t, inr_f, isEmpty_t] at hb0
    refine W.skip ?_
    refine W.seq ?_
    refine W.block ?_
    refine W.seq ?_
    refine W.reg X [] [] [1, 3, 4] [] rfl (by (repeat' (first | exact True.intro | apply And.intro)) <;> first | (intros; omega) | exact rfl | exact El_all _ (by decide) | exact ⟨rfl, El_all _ (by decide)⟩ | ((intro h1; first | (intro h2; first | (intro h3; refine And.intro ?_ ?_) | refine And.intro ?_ ?_) | refine And.intro ?_ ?_) <;> first | omega | ((try simp only [nb, inr_t, inr_f] at *); (try simp (disch := omega) only [i64w]); omega)) | ((try simp only [nb, inr_t, inr_f] at *); (simp (disch := omega) only [i64w]); omega) | (refine fun _ => ?_; dsimp only [hyps, imps]; omega) | (refine fun _ _ => ?_; dsimp only [hyps, imps]; omega) | exact (u8w _).1 | exact (u8w _).2 | exact (u8n _).1 | exact (u8n _).2 | (simp only [byt, maxLen, lens]; omega) | (intros; simp only [nb] at *; omega)) ?_
    refine W.seq ?_
    refine W.draw X [] [(19, ⟨false, [.a (.lit (.bool (inr ((s.received.getD k (dfl .RShare)).client) 0 7)))]⟩), (40, ⟨false, [.a (.lit (.bool (okDB ((s.received.getD k (dfl .RShare)).share))))]⟩)] [1, 3, 51] [] 35 MO (by kernel_rfl) rfl (by (repeat' (first | with_reducible exact AllP.nil | with_reducible refine AllP.mk ?_ ?_ | with_reducible apply And.intro)) <;> skip; (iterate 2 (all_goals try (first | exact (c_spec_l1In ((s.received.getD k (dfl .RShare)).client) 0 7) | exact fun _ => (c_spec_l1In ((s.received.getD k (dfl .RShare)).client) 0 7) | exact fun _ _ => (c_spec_l1In ((s.received.getD k (dfl .RShare)).client) 0 7) | exact (c_spec_IsValidDatabase ((s.received.getD k (dfl .RShare)).share)) | exact fun _ => (c_spec_IsValidDatabase ((s.received.getD k (dfl .RShare)).share)) | exact fun _ _ => (c_spec_IsValidDatabase ((s.received.getD k (dfl .RShare)).share))))); all_goals (first | (intros; omega) | exact rfl | exact El_all _ (by decide) | exact ⟨rfl, El_all _ (by decide)⟩ | ((intro h1; first | (intro h2; first | (intro h3; refine And.intro ?_ ?_) | refine And.intro ?_ ?_) | refine And.intro ?_ ?_) <;> first | omega | ((try simp only [nb, inr_t, inr_f] at *); (try simp (disch := omega) only [i64w]); omega)) | ((try simp only [nb, inr_t, inr_f] at *); (simp (disch := omega) only [i64w]); omega) | (refine fun _ => ?_; dsimp only [hyps, imps]; omega) | (refine fun _ _ => ?_; dsimp only [hyps, imps]; omega) | exact (u8w _).1 | exact (u8w _).2 | exact (u8n _).1 | exact (u8n _).2 | (simp only [byt, maxLen, lens]; omega) | (intros; simp only [nb] at *; omega))) ?_
    refine W.cond rfl (fun hb1 => ?_) (fun hb1 => ?_)
    · have hk2 : okRec s.rows s.received k = false := or_no1 hb1 (by simp only [hw, okRec, ite_tt, ite_ff, gt_iff_lt, ge_iff_le, not_dlt, not_dle, bne_not, deq, decide_not, ne_eq, Bool.not_and, Bool.not_or, Bool.not_not, Bool.and_true, Bool.true_and, Bool.or_false, Bool.false_or, Int.toNat_natCast] <;> first | rfl | ac_rfl)
      refine W.seq ?_
      refine W.reg X [] [] [2] [] rfl ⟨⟩ ?_
      refine W.ret ?_
      exact Fin.ret rfl ⟨by rw [show okSrv s = false by unfold okSrv; rw [range_no hb0 hk2]; simp], ⟨⟩⟩
    · have hk2 : okRec s.rows s.received k = true := or_yes hb1 (by simp only [hw, okRec, ite_tt, ite_ff, gt_iff_lt, ge_iff_le, not_dlt, not_dle, bne_not, deq, decide_not, ne_eq, Bool.not_and, Bool.not_or, Bool.not_not, Bool.and_true, Bool.true_and, Bool.or_false, Bool.false_or, Int.toNat_natCast] <;> first | rfl | ac_rfl)
      refine W.skip ?_
      refine W.reg X [] [] [1, 3] [] rfl ⟨⟩ ?_
      refine ⟨k + 1, ⟨by omega, range_all hall hk2⟩, by omega, ?_⟩
      rw [wadd _ k rfl (by omega)]
      try rfl
  · try simp only [nb, inr_t, inr_f, isEmpty_t] at hb0
    have hall2 : (List.range s.received.length).all (okRec s.rows s.received) = true := by rw [show s.received.length = k by omega]; exact hall
    refine W.exit ?_
    refine W.seq ?_
    refine W.reg X [] [(54, ⟨false, [.a (.lit (.bool (inr s.id 0 3)))]⟩), (58, ⟨false, [.a (.lit (.bool (inr s.rows 1 64)))]⟩), (63, ⟨false, [.a (.lit (.bool (inr s.behavior 0 3)))]⟩), (68, ⟨false, [.a (.lit (.bool (inr s.round 0 100000)))]⟩)] [2] [] rfl (by (repeat' (first | with_reducible exact AllP.nil | with_reducible refine AllP.mk ?_ ?_ | with_reducible apply And.intro)) <;> skip; (iterate 4 (all_goals try (first | exact (c_spec_l1In s.id 0 3) | exact fun _ => (c_spec_l1In s.id 0 3) | exact fun _ _ => (c_spec_l1In s.id 0 3) | exact (c_spec_l1In s.rows 1 64) | exact fun _ => (c_spec_l1In s.rows 1 64) | exact fun _ _ => (c_spec_l1In s.rows 1 64) | exact (c_spec_l1In s.behavior 0 3) | exact fun _ => (c_spec_l1In s.behavior 0 3) | exact fun _ _ => (c_spec_l1In s.behavior 0 3) | exact (c_spec_l1In s.round 0 100000) | exact fun _ => (c_spec_l1In s.round 0 100000) | exact fun _ _ => (c_spec_l1In s.round 0 100000)))); all_goals (first | (intros; omega) | exact rfl | exact El_all _ (by decide) | exact ⟨rfl, El_all _ (by decide)⟩ | ((intro h1; first | (intro h2; first | (intro h3; refine And.intro ?_ ?_) | refine And.intro ?_ ?_) | refine And.intro ?_ ?_) <;> first | omega | ((try simp only [nb, inr_t, inr_f] at *); (try simp (disch := omega) only [i64w]); omega)) | ((try simp only [nb, inr_t, inr_f] at *); (simp (disch := omega) only [i64w]); omega) | (refine fun _ => ?_; dsimp only [hyps, imps]; omega) | (refine fun _ _ => ?_; dsimp only [hyps, imps]; omega) | exact (u8w _).1 | exact (u8w _).2 | exact (u8n _).1 | exact (u8n _).2 | (simp only [byt, maxLen, lens]; omega) | (intros; simp only [nb] at *; omega))) ?_
    refine W.ret ?_
    exact Fin.ret rfl ⟨(congrArg Value.bool (by simp only [okSrv, hdSrv, hall2, ite_tt, ite_ff, gt_iff_lt, ge_iff_le, not_dlt, not_dle, bne_not, deq, decide_not, ne_eq, Bool.not_and, Bool.not_or, Bool.not_not, Bool.and_true, Bool.true_and, Bool.or_false, Bool.false_or, Int.toNat_natCast] <;> first | rfl | ac_rfl)), ⟨⟩⟩
theorem c_spec_IsValidArchive (a : Arc) : Sound ty Try.prog 112 [.agg (dec_Arc a)] [.a (.lit (.bool (okArc a)))] := by
  refine Sound.of X Try.call112 Try.func112 rfl rfl (by decide) Try.ntmps112 (by simp) ?_
  intro zb
  refine W.boundA 0 1 rfl rfl (fun hll => ?_)
  refine W.seq ?_
  refine W.reg X [] [] [1] [] rfl ⟨⟩ ?_
  refine W.seq ?_
  refine W.seq ?_
  refine W.reg X [] [] [1, 3] [] rfl ⟨⟩ ?_
  refine W.block ?_
  refine W.loopO (fun k => k ≤ a.rounds.length ∧ (List.range k).all (okAr a.rows a.rounds) = true) (fun k : Nat => [(3, .one (.a (.lit (.int .i64 k))))]) (fun k => []) (fun k => a.rounds.length - k) 0 (fun k => rfl) ⟨Nat.zero_le _, rfl⟩ rfl ?_
  rintro k ⟨hk, hall⟩
  have hw : (IntKind.i64.wrap ((k : Int) - 1)).toNat = k - 1 := by rw [i64w (by omega)]; omega
  refine W.seq ?_
  refine W.seq ?_
  refine W.reg X [] [] [1, 3, 9] [] rfl ⟨⟩ ?_
  refine W.cond rfl (fun hb0 => ?_) (fun hb0 => ?_)
  · try simp only [nb, inr_t, inr_f, isEmpty_t] at hb0
    refine W.skip ?_
    refine W.seq ?_
    refine W.block ?_
    refine W.seq ?_
    refine W.reg X [] [] [1, 3, 4] [] rfl (by (repeat' (first | exact True.intro | apply And.intro)) <;> first | (intros; omega) | exact rfl | exact El_all _ (by decide) | exact ⟨rfl, El_all _ (by decide)⟩ | ((intro h1; first | (intro h2; first | (intro h3; refine And.intro ?_ ?_) | refine And.intro ?_ ?_) | refine And.intro ?_ ?_) <;> first | omega | ((try simp only [nb, inr_t, inr_f] at *); (try simp (disch := omega) only [i64w]); omega)) | ((try simp only [nb, inr_t, inr_f] at *); (simp (disch := omega) only [i64w]); omega) | (refine fun _ => ?_; dsimp only [hyps, imps]; omega) | (refine fun _ _ => ?_; dsimp only [hyps, imps]; omega) | exact (u8w _).1 | exact (u8w _).2 | exact (u8n _).1 | exact (u8n _).2 | (simp only [byt, maxLen, lens]; omega) | (intros; simp only [nb] at *; omega)) ?_
    refine W.seq ?_
    refine W.draw X [] [(19, ⟨false, [.a (.lit (.bool (inr ((a.rounds.getD k (dfl .ARound)).round) 0 100000)))]⟩), (40, ⟨false, [.a (.lit (.bool (okDB ((a.rounds.getD k (dfl .ARound)).db))))]⟩)] [1, 3, 51] [] 35 MO (by kernel_rfl) rfl (by (repeat' (first | with_reducible exact AllP.nil | with_reducible refine AllP.mk ?_ ?_ | with_reducible apply And.intro)) <;> skip; (iterate 2 (all_goals try (first | exact (c_spec_l1In ((a.rounds.getD k (dfl .ARound)).round) 0 100000) | exact fun _ => (c_spec_l1In ((a.rounds.getD k (dfl .ARound)).round) 0 100000) | exact fun _ _ => (c_spec_l1In ((a.rounds.getD k (dfl .ARound)).round) 0 100000) | exact (c_spec_IsValidDatabase ((a.rounds.getD k (dfl .ARound)).db)) | exact fun _ => (c_spec_IsValidDatabase ((a.rounds.getD k (dfl .ARound)).db)) | exact fun _ _ => (c_spec_IsValidDatabase ((a.rounds.getD k (dfl .ARound)).db))))); all_goals (first | (intros; omega) | exact rfl | exact El_all _ (by decide) | exact ⟨rfl, El_all _ (by decide)⟩ | ((intro h1; first | (intro h2; first | (intro h3; refine And.intro ?_ ?_) | refine And.intro ?_ ?_) | refine And.intro ?_ ?_) <;> first | omega | ((try simp only [nb, inr_t, inr_f] at *); (try simp (disch := omega) only [i64w]); omega)) | ((try simp only [nb, inr_t, inr_f] at *); (simp (disch := omega) only [i64w]); omega) | (refine fun _ => ?_; dsimp only [hyps, imps]; omega) | (refine fun _ _ => ?_; dsimp only [hyps, imps]; omega) | exact (u8w _).1 | exact (u8w _).2 | exact (u8n _).1 | exact (u8n _).2 | (simp only [byt, maxLen, lens]; omega) | (intros; simp only [nb] at *; omega))) ?_
    refine W.cond rfl (fun hb1 => ?_) (fun hb1 => ?_)
    · have hk2 : okAr a.rows a.rounds k = false := or_no1 hb1 (by simp only [hw, okAr, ite_tt, ite_ff, gt_iff_lt, ge_iff_le, not_dlt, not_dle, bne_not, deq, decide_not, ne_eq, Bool.not_and, Bool.not_or, Bool.not_not, Bool.and_true, Bool.true_and, Bool.or_false, Bool.false_or, Int.toNat_natCast] <;> first | rfl | ac_rfl)
      refine W.seq ?_
      refine W.reg X [] [] [2] [] rfl ⟨⟩ ?_
      refine W.ret ?_
      exact Fin.ret rfl ⟨by rw [show okArc a = false by unfold okArc; rw [range_no hb0 hk2]; simp], ⟨⟩⟩
    · have hk2 : okAr a.rows a.rounds k = true := or_yes hb1 (by simp only [hw, okAr, ite_tt, ite_ff, gt_iff_lt, ge_iff_le, not_dlt, not_dle, bne_not, deq, decide_not, ne_eq, Bool.not_and, Bool.not_or, Bool.not_not, Bool.and_true, Bool.true_and, Bool.or_false, Bool.false_or, Int.toNat_natCast] <;> first | rfl | ac_rfl)
      refine W.skip ?_
      refine W.reg X [] [] [1, 3] [] rfl ⟨⟩ ?_
      refine ⟨k + 1, ⟨by omega, range_all hall hk2⟩, by omega, ?_⟩
      rw [wadd _ k rfl (by omega)]
      try rfl
  · try simp only [nb, inr_t, inr_f, isEmpty_t] at hb0
    have hall2 : (List.range a.rounds.length).all (okAr a.rows a.rounds) = true := by rw [show a.rounds.length = k by omega]; exact hall
    refine W.exit ?_
    refine W.seq ?_
    refine W.reg X [] [(54, ⟨false, [.a (.lit (.bool (inr a.rows 1 64)))]⟩)] [2] [] rfl (by (repeat' (first | with_reducible exact AllP.nil | with_reducible refine AllP.mk ?_ ?_ | with_reducible apply And.intro)) <;> skip; (iterate 1 (all_goals try (first | exact (c_spec_l1In a.rows 1 64) | exact fun _ => (c_spec_l1In a.rows 1 64) | exact fun _ _ => (c_spec_l1In a.rows 1 64)))); all_goals (first | (intros; omega) | exact rfl | exact El_all _ (by decide) | exact ⟨rfl, El_all _ (by decide)⟩ | ((intro h1; first | (intro h2; first | (intro h3; refine And.intro ?_ ?_) | refine And.intro ?_ ?_) | refine And.intro ?_ ?_) <;> first | omega | ((try simp only [nb, inr_t, inr_f] at *); (try simp (disch := omega) only [i64w]); omega)) | ((try simp only [nb, inr_t, inr_f] at *); (simp (disch := omega) only [i64w]); omega) | (refine fun _ => ?_; dsimp only [hyps, imps]; omega) | (refine fun _ _ => ?_; dsimp only [hyps, imps]; omega) | exact (u8w _).1 | exact (u8w _).2 | exact (u8n _).1 | exact (u8n _).2 | (simp only [byt, maxLen, lens]; omega) | (intros; simp only [nb] at *; omega))) ?_
    refine W.ret ?_
    exact Fin.ret rfl ⟨(congrArg Value.bool (by simp only [okArc, hdArc, hall2, ite_tt, ite_ff, gt_iff_lt, ge_iff_le, not_dlt, not_dle, bne_not, deq, decide_not, ne_eq, Bool.not_and, Bool.not_or, Bool.not_not, Bool.and_true, Bool.true_and, Bool.or_false, Bool.false_or, Int.toNat_natCast] <;> first | rfl | ac_rfl)), ⟨⟩⟩
theorem str8_toList (a : List UInt8) : (str8 a).toList = a := by
  rw [ByteArray.toList_eq]; rfl
theorem c_spec_EqualBytes (a b : List UInt8) : Sound ty Try.prog 86 [.a (.sl .u8 a), .a (.sl .u8 b)] [.a (.lit (.bool (a == b)))] := by
  refine Sound.of X Try.call86 Try.func86 rfl rfl (by decide) Try.ntmps86 (by simp) ?_
  intro zb
  refine W.seq ?_
  refine W.reg X [] [] [0, 1] [] rfl ⟨⟩ ?_
  refine W.seq ?_
  refine W.reg X [] [] [4] [] rfl ⟨⟩ ?_
  refine W.ret ?_
  exact Fin.ret rfl ⟨by rw [str8_toList, str8_toList], ⟨⟩⟩
theorem c_slices_Equal_byte_byte (a b : List UInt8) : Sound ty Try.prog 127 [.a (.sl .u8 a), .a (.sl .u8 b)] [.a (.lit (.bool (a == b)))] := by
  refine Sound.of X Try.call127 Try.func127 rfl rfl (by decide) Try.ntmps127 (by simp) ?_
  intro zb
  refine W.bound 0 rfl (fun hl1 => ?_)
  refine W.bound 1 rfl (fun hl2 => ?_)
  refine W.seq ?_
  refine W.reg X [] [] [0, 1] [] rfl ⟨⟩ ?_
  refine W.seq ?_
  refine W.seq ?_
  refine W.reg X [] [] [0, 1, 10] [] rfl ⟨⟩ ?_
  refine W.cond rfl (fun hb0 => ?_) (fun hb0 => ?_)
  · try simp only [nb, inr_t, inr_f, isEmpty_t] at hb0
    refine W.seq ?_
    refine W.reg X [] [] [4] [] rfl ⟨⟩ ?_
    refine W.ret ?_
    exact Fin.ret rfl ⟨by rw [ne_of_len a b hb0], ⟨⟩⟩
  · try simp only [nb, inr_t, inr_f, isEmpty_t] at hb0
    refine W.skip ?_
    refine W.seq ?_
    refine W.seq ?_
    refine W.reg X [] [] [0, 1, 12, 13] [] rfl ⟨⟩ ?_
    refine W.block ?_
    refine W.loopO (fun k => k ≤ a.length ∧ a.take k = b.take k) (fun k : Nat => [(13, .one (.a (.lit (.int .i64 k))))]) (fun k => []) (fun k => a.length - k) 0 (fun k => rfl) ⟨Nat.zero_le _, rfl⟩ rfl ?_
    rintro k ⟨hk, hall⟩
    refine W.seq ?_
    refine W.reg X [] [] [0, 1, 12, 13, 14] [] rfl ⟨⟩ ?_
    refine W.seq ?_
    refine W.cond rfl (fun hb1 => ?_) (fun hb1 => ?_)
    · try simp only [nb, inr_t, inr_f, isEmpty_t] at hb1
      refine W.skip ?_
      refine W.seq ?_
      refine W.block ?_
      refine W.seq ?_
      refine W.reg X [] [] [0, 1, 5, 12, 13] [] rfl ⟨⟩ ?_
      refine W.seq ?_
      refine W.draw X [] [] [0, 1, 12, 13, 24] [] 9 MO (by kernel_rfl) rfl (by (repeat' (first | exact True.intro | apply And.intro)) <;> first | (intros; omega) | exact rfl | exact El_all _ (by decide) | exact ⟨rfl, El_all _ (by decide)⟩ | ((intro h1; first | (intro h2; first | (intro h3; refine And.intro ?_ ?_) | refine And.intro ?_ ?_) | refine And.intro ?_ ?_) <;> first | omega | ((try simp only [nb, inr_t, inr_f] at *); (try simp (disch := omega) only [i64w]); omega)) | ((try simp only [nb, inr_t, inr_f] at *); (simp (disch := omega) only [i64w]); omega) | (refine fun _ => ?_; dsimp only [hyps, imps]; omega) | (refine fun _ _ => ?_; dsimp only [hyps, imps]; omega) | exact (u8w _).1 | exact (u8w _).2 | exact (u8n _).1 | exact (u8n _).2 | (simp only [byt, maxLen, lens]; omega) | (intros; simp only [nb] at *; omega)) ?_
      refine W.cond rfl (fun hb2 => ?_) (fun hb2 => ?_)
      · try simp only [nb, inr_t, inr_f, isEmpty_t] at hb2
        have hne := ne_of_getD a b (dfl .u8) k (fun h => hb2 (by rw [h]))
        refine W.seq ?_
        refine W.reg X [] [] [4] [] rfl ⟨⟩ ?_
        refine W.ret ?_
        exact Fin.ret rfl ⟨by rw [hne], ⟨⟩⟩
      · try simp only [nb, inr_t, inr_f, isEmpty_t] at hb2
        have he : a.getD k (dfl .u8) = b.getD k (dfl .u8) := u8_inj hb2
        refine W.skip ?_
        refine W.reg X [] [] [0, 1, 12, 13] [] rfl ⟨⟩ ?_
        refine ⟨k + 1, ⟨by omega, take_eq_step a b (dfl .u8) k hb1 (by omega) hall he⟩, by omega, ?_⟩
        rw [wadd _ k rfl (by omega)]
        try rfl
    · try simp only [nb, inr_t, inr_f, isEmpty_t] at hb1
      refine W.exit ?_
      refine W.seq ?_
      refine W.reg X [] [] [4] [] rfl ⟨⟩ ?_
      refine W.ret ?_
      exact Fin.ret rfl ⟨by rw [eq_of_take a b k (by omega) (by omega) hall], ⟨⟩⟩
theorem c_spec_EqualLists (a b : List (List UInt8)) : Sound ty Try.prog 68 [.a (.sl (.sl .u8) a), .a (.sl (.sl .u8) b)] [.a (.lit (.bool (a == b)))] := by
  refine Sound.of X Try.call68 Try.func68 rfl rfl (by decide) Try.ntmps68 (by simp) ?_
  intro zb
  refine W.bound 0 rfl (fun hl1 => ?_)
  refine W.bound 1 rfl (fun hl2 => ?_)
  refine W.seq ?_
  refine W.reg X [] [] [0, 1] [] rfl ⟨⟩ ?_
  refine W.seq ?_
  refine W.seq ?_
  refine W.reg X [] [] [0, 1, 10] [] rfl ⟨⟩ ?_
  refine W.cond rfl (fun hb0 => ?_) (fun hb0 => ?_)
  · try simp only [nb, inr_t, inr_f, isEmpty_t] at hb0
    refine W.seq ?_
    refine W.reg X [] [] [4] [] rfl ⟨⟩ ?_
    refine W.ret ?_
    exact Fin.ret rfl ⟨by rw [ne_of_len a b hb0], ⟨⟩⟩
  · try simp only [nb, inr_t, inr_f, isEmpty_t] at hb0
    refine W.skip ?_
    refine W.seq ?_
    refine W.seq ?_
    refine W.reg X [] [] [0, 1, 5] [] rfl ⟨⟩ ?_
    refine W.block ?_
    refine W.loopO (fun k => k ≤ a.length ∧ a.take k = b.take k) (fun k : Nat => [(5, .one (.a (.lit (.int .i64 k))))]) (fun k => []) (fun k => a.length - k) 0 (fun k => rfl) ⟨Nat.zero_le _, rfl⟩ rfl ?_
    rintro k ⟨hk, hall⟩
    refine W.seq ?_
    refine W.seq ?_
    refine W.reg X [] [] [0, 1, 5, 14] [] rfl ⟨⟩ ?_
    refine W.cond rfl (fun hb1 => ?_) (fun hb1 => ?_)
    · try simp only [nb, inr_t, inr_f, isEmpty_t] at hb1
      refine W.skip ?_
      refine W.seq ?_
      refine W.block ?_
      refine W.seq ?_
      refine W.draw X [] [(25, ⟨false, [.a (.lit (.bool _))]⟩)] [0, 1, 5, 26] [] 10 MO (by kernel_rfl) rfl (by (repeat' (first | with_reducible exact AllP.nil | with_reducible refine AllP.mk ?_ ?_ | with_reducible apply And.intro)) <;> skip; (iterate 1 (all_goals try (first | exact (c_spec_EqualBytes _ _) | exact fun _ => (c_spec_EqualBytes _ _) | exact fun _ _ => (c_spec_EqualBytes _ _)))); all_goals (first | (intros; omega) | exact rfl | exact El_all _ (by decide) | exact ⟨rfl, El_all _ (by decide)⟩ | ((intro h1; first | (intro h2; first | (intro h3; refine And.intro ?_ ?_) | refine And.intro ?_ ?_) | refine And.intro ?_ ?_) <;> first | omega | ((try simp only [nb, inr_t, inr_f] at *); (try simp (disch := omega) only [i64w]); omega)) | ((try simp only [nb, inr_t, inr_f] at *); (simp (disch := omega) only [i64w]); omega) | (refine fun _ => ?_; dsimp only [hyps, imps]; omega) | (refine fun _ _ => ?_; dsimp only [hyps, imps]; omega) | exact (u8w _).1 | exact (u8w _).2 | exact (u8n _).1 | exact (u8n _).2 | (simp only [byt, maxLen, lens]; omega) | (intros; simp only [nb] at *; omega))) ?_
      refine W.cond rfl (fun hb2 => ?_) (fun hb2 => ?_)
      · try simp only [nb, inr_t, inr_f, isEmpty_t] at hb2
        have hne := ne_of_getD a b (dfl (.sl .u8)) k (fun h => hb2 (by rw [h]))
        refine W.seq ?_
        refine W.reg X [] [] [4] [] rfl ⟨⟩ ?_
        refine W.ret ?_
        exact Fin.ret rfl ⟨by rw [hne], ⟨⟩⟩
      · try simp only [nb, inr_t, inr_f, isEmpty_t] at hb2
        have he : a.getD k (dfl (.sl .u8)) = b.getD k (dfl (.sl .u8)) := hb2
        refine W.skip ?_
        refine W.reg X [] [] [0, 1, 5] [] rfl ⟨⟩ ?_
        refine ⟨k + 1, ⟨by omega, take_eq_step a b (dfl (.sl .u8)) k hb1 (by omega) hall he⟩, by omega, ?_⟩
        rw [wadd _ k rfl (by omega)]
        try rfl
    · try simp only [nb, inr_t, inr_f, isEmpty_t] at hb1
      refine W.exit ?_
      refine W.seq ?_
      refine W.reg X [] [] [4] [] rfl ⟨⟩ ?_
      refine W.ret ?_
      exact Fin.ret rfl ⟨by rw [eq_of_take a b k (by omega) (by omega) hall], ⟨⟩⟩
theorem c_impl_EqualBytes (a b : List UInt8) : Sound ty Try.prog 91 [.a (.sl .u8 a), .a (.sl .u8 b)] [.a (.lit (.bool (a == b)))] := by
  refine Sound.of X Try.call91 Try.func91 rfl rfl (by decide) Try.ntmps91 (by simp) ?_
  intro zb
  refine W.seq ?_
  refine W.reg X [] [] [0, 1] [] rfl ⟨⟩ ?_
  refine W.seq ?_
  refine W.reg X [] [(7, ⟨false, [.a (.lit (.bool _))]⟩)] [4] [] rfl (by (repeat' (first | with_reducible exact AllP.nil | with_reducible refine AllP.mk ?_ ?_ | with_reducible apply And.intro)) <;> skip; (iterate 1 (all_goals try (first | exact (c_slices_Equal_byte_byte _ _) | exact fun _ => (c_slices_Equal_byte_byte _ _) | exact fun _ _ => (c_slices_Equal_byte_byte _ _)))); all_goals (first | (intros; omega) | exact rfl | exact El_all _ (by decide) | exact ⟨rfl, El_all _ (by decide)⟩ | ((intro h1; first | (intro h2; first | (intro h3; refine And.intro ?_ ?_) | refine And.intro ?_ ?_) | refine And.intro ?_ ?_) <;> first | omega | ((try simp only [nb, inr_t, inr_f] at *); (try simp (disch := omega) only [i64w]); omega)) | ((try simp only [nb, inr_t, inr_f] at *); (simp (disch := omega) only [i64w]); omega) | (refine fun _ => ?_; dsimp only [hyps, imps]; omega) | (refine fun _ _ => ?_; dsimp only [hyps, imps]; omega) | exact (u8w _).1 | exact (u8w _).2 | exact (u8n _).1 | exact (u8n _).2 | (simp only [byt, maxLen, lens]; omega) | (intros; simp only [nb] at *; omega))) ?_
  refine W.ret ?_
  exact Fin.ret rfl ⟨rfl, ⟨⟩⟩
theorem c_slices_EqualFunc_byte_byte_byte_byte (a b : List (List UInt8)) : Sound ty Try.prog 139 [.a (.sl (.sl .u8) a), .a (.sl (.sl .u8) b), .a (.lit (.func (.func 91) #[] #[]))] [.a (.lit (.bool (a == b)))] := by
  refine Sound.of X Try.call139 Try.func139 rfl rfl (by decide) Try.ntmps139 (by simp) ?_
  intro zb
  refine W.bound 0 rfl (fun hl1 => ?_)
  refine W.bound 1 rfl (fun hl2 => ?_)
  refine W.seq ?_
  refine W.reg X [] [] [0, 1, 2] [] rfl ⟨⟩ ?_
  refine W.seq ?_
  refine W.seq ?_
  refine W.reg X [] [] [0, 1, 2, 14] [] rfl ⟨⟩ ?_
  refine W.cond rfl (fun hb0 => ?_) (fun hb0 => ?_)
  · try simp only [nb, inr_t, inr_f, isEmpty_t] at hb0
    refine W.seq ?_
    refine W.reg X [] [] [6] [] rfl ⟨⟩ ?_
    refine W.ret ?_
    exact Fin.ret rfl ⟨by rw [ne_of_len a b hb0], ⟨⟩⟩
  · try simp only [nb, inr_t, inr_f, isEmpty_t] at hb0
    refine W.skip ?_
    refine W.seq ?_
    refine W.seq ?_
    refine W.reg X [] [] [1, 2, 15, 16, 17] [] rfl ⟨⟩ ?_
    refine W.block ?_
    refine W.loopO (fun k => k ≤ a.length ∧ a.take k = b.take k) (fun k : Nat => [(17, .one (.a (.lit (.int .i64 k))))]) (fun k => []) (fun k => a.length - k) 0 (fun k => rfl) ⟨Nat.zero_le _, rfl⟩ rfl ?_
    rintro k ⟨hk, hall⟩
    refine W.seq ?_
    refine W.reg X [] [] [1, 2, 15, 16, 17, 18] [] rfl ⟨⟩ ?_
    refine W.seq ?_
    refine W.cond rfl (fun hb1 => ?_) (fun hb1 => ?_)
    · try simp only [nb, inr_t, inr_f, isEmpty_t] at hb1
      refine W.skip ?_
      refine W.seq ?_
      refine W.block ?_
      refine W.seq ?_
      refine W.reg X [] [] [1, 2, 7, 8, 15, 16, 17] [] rfl (by (repeat' (first | exact True.intro | apply And.intro)) <;> first | (intros; omega) | exact rfl | exact El_all _ (by decide) | exact ⟨rfl, El_all _ (by decide)⟩ | ((intro h1; first | (intro h2; first | (intro h3; refine And.intro ?_ ?_) | refine And.intro ?_ ?_) | refine And.intro ?_ ?_) <;> first | omega | ((try simp only [nb, inr_t, inr_f] at *); (try simp (disch := omega) only [i64w]); omega)) | ((try simp only [nb, inr_t, inr_f] at *); (simp (disch := omega) only [i64w]); omega) | (refine fun _ => ?_; dsimp only [hyps, imps]; omega) | (refine fun _ _ => ?_; dsimp only [hyps, imps]; omega) | exact (u8w _).1 | exact (u8w _).2 | exact (u8n _).1 | exact (u8n _).2 | (simp only [byt, maxLen, lens]; omega) | (intros; simp only [nb] at *; omega)) ?_
      refine W.seq ?_
      refine W.reg X [] [] [1, 2, 8, 9, 15, 16, 17] [] rfl (by (repeat' (first | exact True.intro | apply And.intro)) <;> first | (intros; omega) | exact rfl | exact El_all _ (by decide) | exact ⟨rfl, El_all _ (by decide)⟩ | ((intro h1; first | (intro h2; first | (intro h3; refine And.intro ?_ ?_) | refine And.intro ?_ ?_) | refine And.intro ?_ ?_) <;> first | omega | ((try simp only [nb, inr_t, inr_f] at *); (try simp (disch := omega) only [i64w]); omega)) | ((try simp only [nb, inr_t, inr_f] at *); (simp (disch := omega) only [i64w]); omega) | (refine fun _ => ?_; dsimp only [hyps, imps]; omega) | (refine fun _ _ => ?_; dsimp only [hyps, imps]; omega) | exact (u8w _).1 | exact (u8w _).2 | exact (u8n _).1 | exact (u8n _).2 | (simp only [byt, maxLen, lens]; omega) | (intros; simp only [nb] at *; omega)) ?_
      refine W.seq ?_
      refine W.reg X [] [(29, ⟨false, [.a (.lit (.bool (a.getD k (dfl (.sl .u8)) == b.getD k (dfl (.sl .u8)))))]⟩)] [1, 2, 15, 16, 17, 30] [] rfl (by (repeat' (first | with_reducible exact AllP.nil | with_reducible refine AllP.mk ?_ ?_ | with_reducible apply And.intro)) <;> skip; (iterate 1 (all_goals try (first | exact (c_impl_EqualBytes _ _) | exact fun _ => (c_impl_EqualBytes _ _) | exact fun _ _ => (c_impl_EqualBytes _ _)))); all_goals (first | (intros; omega) | exact rfl | exact El_all _ (by decide) | exact ⟨rfl, El_all _ (by decide)⟩ | ((intro h1; first | (intro h2; first | (intro h3; refine And.intro ?_ ?_) | refine And.intro ?_ ?_) | refine And.intro ?_ ?_) <;> first | omega | ((try simp only [nb, inr_t, inr_f] at *); (try simp (disch := omega) only [i64w]); omega)) | ((try simp only [nb, inr_t, inr_f] at *); (simp (disch := omega) only [i64w]); omega) | (refine fun _ => ?_; dsimp only [hyps, imps]; omega) | (refine fun _ _ => ?_; dsimp only [hyps, imps]; omega) | exact (u8w _).1 | exact (u8w _).2 | exact (u8n _).1 | exact (u8n _).2 | (simp only [byt, maxLen, lens]; omega) | (intros; simp only [nb] at *; omega))) ?_
      refine W.cond rfl (fun hb2 => ?_) (fun hb2 => ?_)
      · try simp only [nb, inr_t, inr_f, isEmpty_t] at hb2
        have hne := ne_of_getD a b (dfl (.sl .u8)) k (fun h => hb2 (by rw [h]))
        refine W.seq ?_
        refine W.reg X [] [] [6] [] rfl ⟨⟩ ?_
        refine W.ret ?_
        exact Fin.ret rfl ⟨by rw [hne], ⟨⟩⟩
      · try simp only [nb, inr_t, inr_f, isEmpty_t] at hb2
        have he : a.getD k (dfl (.sl .u8)) = b.getD k (dfl (.sl .u8)) := hb2
        refine W.skip ?_
        refine W.reg X [] [] [1, 2, 15, 16, 17] [] rfl ⟨⟩ ?_
        refine ⟨k + 1, ⟨by omega, take_eq_step a b (dfl (.sl .u8)) k hb1 (by omega) hall he⟩, by omega, ?_⟩
        rw [wadd _ k rfl (by omega)]
        try rfl
    · try simp only [nb, inr_t, inr_f, isEmpty_t] at hb1
      refine W.exit ?_
      refine W.seq ?_
      refine W.reg X [] [] [6] [] rfl ⟨⟩ ?_
      refine W.ret ?_
      exact Fin.ret rfl ⟨by rw [eq_of_take a b k (by omega) (by omega) hall], ⟨⟩⟩
theorem c_impl_EqualLists (a b : List (List UInt8)) : Sound ty Try.prog 102 [.a (.sl (.sl .u8) a), .a (.sl (.sl .u8) b)] [.a (.lit (.bool (a == b)))] := by
  refine Sound.of X Try.call102 Try.func102 rfl rfl (by decide) Try.ntmps102 (by simp) ?_
  intro zb
  refine W.seq ?_
  refine W.reg X [] [] [0, 1] [] rfl ⟨⟩ ?_
  refine W.seq ?_
  refine W.reg X [] [(7, ⟨false, [.a (.lit (.bool _))]⟩)] [4] [] rfl (by (repeat' (first | with_reducible exact AllP.nil | with_reducible refine AllP.mk ?_ ?_ | with_reducible apply And.intro)) <;> skip; (iterate 1 (all_goals try (first | exact (c_slices_EqualFunc_byte_byte_byte_byte _ _) | exact fun _ => (c_slices_EqualFunc_byte_byte_byte_byte _ _) | exact fun _ _ => (c_slices_EqualFunc_byte_byte_byte_byte _ _)))); all_goals (first | (intros; omega) | exact rfl | exact El_all _ (by decide) | exact ⟨rfl, El_all _ (by decide)⟩ | ((intro h1; first | (intro h2; first | (intro h3; refine And.intro ?_ ?_) | refine And.intro ?_ ?_) | refine And.intro ?_ ?_) <;> first | omega | ((try simp only [nb, inr_t, inr_f] at *); (try simp (disch := omega) only [i64w]); omega)) | ((try simp only [nb, inr_t, inr_f] at *); (simp (disch := omega) only [i64w]); omega) | (refine fun _ => ?_; dsimp only [hyps, imps]; omega) | (refine fun _ _ => ?_; dsimp only [hyps, imps]; omega) | exact (u8w _).1 | exact (u8w _).2 | exact (u8n _).1 | exact (u8n _).2 | (simp only [byt, maxLen, lens]; omega) | (intros; simp only [nb] at *; omega))) ?_
  refine W.ret ?_
  exact Fin.ret rfl ⟨rfl, ⟨⟩⟩
theorem c_impl_IsValidClient_1 (b : List UInt8) : Sound ty Try.prog 176 [.a (.sl .u8 b)] [.a (.lit (.bool (long b)))] := by
  refine Sound.of X Try.call176 Try.func176 rfl rfl (by decide) Try.ntmps176 (by simp) ?_
  intro zb
  refine W.seq ?_
  refine W.reg X [] [] [0] [] rfl ⟨⟩ ?_
  refine W.seq ?_
  refine W.reg X [] [] [2] [] rfl ⟨⟩ ?_
  refine W.ret ?_
  exact Fin.ret rfl ⟨rfl, ⟨⟩⟩
theorem c_impl_isServerCount (n : Int) : Sound ty Try.prog 115 [.a (.lit (.int .i64 n))] [.a (.lit (.bool (srvCnt n)))] := by
  refine Sound.of X Try.call115 Try.func115 rfl rfl (by decide) Try.ntmps115 (by simp) ?_
  intro zb
  refine W.seq ?_
  refine W.reg X [] [] [0] [] rfl ⟨⟩ ?_
  refine W.seq ?_
  refine W.reg X [] [(4, ⟨false, [.a (.lit (.bool _))]⟩)] [2] [] rfl (by (repeat' (first | with_reducible exact AllP.nil | with_reducible refine AllP.mk ?_ ?_ | with_reducible apply And.intro)) <;> skip; (iterate 1 (all_goals try (first | exact (c_impl_InRange _ _ _) | exact fun _ => (c_impl_InRange _ _ _) | exact fun _ _ => (c_impl_InRange _ _ _)))); all_goals (first | (intros; omega) | exact rfl | exact El_all _ (by decide) | exact ⟨rfl, El_all _ (by decide)⟩ | ((intro h1; first | (intro h2; first | (intro h3; refine And.intro ?_ ?_) | refine And.intro ?_ ?_) | refine And.intro ?_ ?_) <;> first | omega | ((try simp only [nb, inr_t, inr_f] at *); (try simp (disch := omega) only [i64w]); omega)) | ((try simp only [nb, inr_t, inr_f] at *); (simp (disch := omega) only [i64w]); omega) | (refine fun _ => ?_; dsimp only [hyps, imps]; omega) | (refine fun _ _ => ?_; dsimp only [hyps, imps]; omega) | exact (u8w _).1 | exact (u8w _).2 | exact (u8n _).1 | exact (u8n _).2 | (simp only [byt, maxLen, lens]; omega) | (intros; simp only [nb] at *; omega))) ?_
  refine W.ret ?_
  exact Fin.ret rfl ⟨rfl, ⟨⟩⟩
theorem c_spec_l7Count (n : Int) : Sound ty Try.prog 143 [.a (.lit (.int .i64 n))] [.a (.lit (.bool (srvCnt n)))] := by
  refine Sound.of X Try.call143 Try.func143 rfl rfl (by decide) Try.ntmps143 (by simp) ?_
  intro zb
  refine W.seq ?_
  refine W.reg X [] [] [0] [] rfl ⟨⟩ ?_
  refine W.seq ?_
  refine W.reg X [] [(4, ⟨false, [.a (.lit (.bool _))]⟩)] [2] [] rfl (by (repeat' (first | with_reducible exact AllP.nil | with_reducible refine AllP.mk ?_ ?_ | with_reducible apply And.intro)) <;> skip; (iterate 1 (all_goals try (first | exact (c_spec_l1In _ _ _) | exact fun _ => (c_spec_l1In _ _ _) | exact fun _ _ => (c_spec_l1In _ _ _)))); all_goals (first | (intros; omega) | exact rfl | exact El_all _ (by decide) | exact ⟨rfl, El_all _ (by decide)⟩ | ((intro h1; first | (intro h2; first | (intro h3; refine And.intro ?_ ?_) | refine And.intro ?_ ?_) | refine And.intro ?_ ?_) <;> first | omega | ((try simp only [nb, inr_t, inr_f] at *); (try simp (disch := omega) only [i64w]); omega)) | ((try simp only [nb, inr_t, inr_f] at *); (simp (disch := omega) only [i64w]); omega) | (refine fun _ => ?_; dsimp only [hyps, imps]; omega) | (refine fun _ _ => ?_; dsimp only [hyps, imps]; omega) | exact (u8w _).1 | exact (u8w _).2 | exact (u8n _).1 | exact (u8n _).2 | (simp only [byt, maxLen, lens]; omega) | (intros; simp only [nb] at *; omega))) ?_
  refine W.ret ?_
  exact Fin.ret rfl ⟨rfl, ⟨⟩⟩
theorem c_impl_IsValidClient (c : Cli) : Sound ty Try.prog 147 [.agg (dec_Cli c)] [.a (.lit (.bool (okCli c)))] := by
  refine Sound.of X Try.call147 Try.func147 rfl rfl (by decide) Try.ntmps147 (by simp) ?_
  intro zb
  refine W.seq ?_
  refine W.reg X [] [] [1] [] rfl ⟨⟩ ?_
  refine W.seq ?_
  refine W.reg X [] [] [1, 3] [] rfl ⟨⟩ ?_
  refine W.seq ?_
  refine W.reg X [] [(6, ⟨false, [.a (.lit (.bool (inr c.id 0 7)))]⟩), (10, ⟨false, [.a (.lit (.bool (inr c.friend 0 7)))]⟩), (22, ⟨false, [.a (.lit (.bool (okKey c.key)))]⟩), (40, ⟨false, [.a (.lit (.bool (c.submitted.any long)))]⟩), (47, ⟨false, [.a (.lit (.bool (c.inbox.any long)))]⟩), (56, ⟨false, [.a (.lit (.bool (inr c.sent 0 (c.submitted.length : Int))))]⟩), (61, ⟨false, [.a (.lit (.bool (inr c.next 0 100000)))]⟩)] [2] [] rfl (by (repeat' (first | with_reducible exact AllP.nil | with_reducible refine AllP.mk ?_ ?_ | with_reducible apply And.intro)) <;> skip; (iterate 7 (all_goals try (first | exact (c_impl_InRange c.id 0 7) | exact fun _ => (c_impl_InRange c.id 0 7) | exact fun _ _ => (c_impl_InRange c.id 0 7) | exact (c_impl_InRange c.friend 0 7) | exact fun _ => (c_impl_InRange c.friend 0 7) | exact fun _ _ => (c_impl_InRange c.friend 0 7) | exact (c_impl_IsValidKey c.key) | exact fun _ => (c_impl_IsValidKey c.key) | exact fun _ _ => (c_impl_IsValidKey c.key) | exact (c_slices_ContainsFunc_byte_byte _ _ _ c_impl_IsValidClient_1) | exact fun _ => (c_slices_ContainsFunc_byte_byte _ _ _ c_impl_IsValidClient_1) | exact fun _ _ => (c_slices_ContainsFunc_byte_byte _ _ _ c_impl_IsValidClient_1) | exact (c_slices_ContainsFunc_byte_byte _ _ _ c_impl_IsValidClient_1) | exact fun _ => (c_slices_ContainsFunc_byte_byte _ _ _ c_impl_IsValidClient_1) | exact fun _ _ => (c_slices_ContainsFunc_byte_byte _ _ _ c_impl_IsValidClient_1) | exact (c_impl_InRange c.sent 0 (c.submitted.length : Int)) | exact fun _ => (c_impl_InRange c.sent 0 (c.submitted.length : Int)) | exact fun _ _ => (c_impl_InRange c.sent 0 (c.submitted.length : Int)) | exact (c_impl_InRange c.next 0 100000) | exact fun _ => (c_impl_InRange c.next 0 100000) | exact fun _ _ => (c_impl_InRange c.next 0 100000)))); all_goals (first | (intros; omega) | exact rfl | exact El_all _ (by decide) | exact ⟨rfl, El_all _ (by decide)⟩ | ((intro h1; first | (intro h2; first | (intro h3; refine And.intro ?_ ?_) | refine And.intro ?_ ?_) | refine And.intro ?_ ?_) <;> first | omega | ((try simp only [nb, inr_t, inr_f] at *); (try simp (disch := omega) only [i64w]); omega)) | ((try simp only [nb, inr_t, inr_f] at *); (simp (disch := omega) only [i64w]); omega) | (refine fun _ => ?_; dsimp only [hyps, imps]; omega) | (refine fun _ _ => ?_; dsimp only [hyps, imps]; omega) | exact (u8w _).1 | exact (u8w _).2 | exact (u8n _).1 | exact (u8n _).2 | (simp only [byt, maxLen, lens]; omega) | (intros; simp only [nb] at *; omega))) ?_
  refine W.ret ?_
  exact Fin.ret rfl ⟨(congrArg Value.bool (by simp only [okCli, ite_tt, ite_ff, gt_iff_lt, ge_iff_le, not_dlt, not_dle, bne_not, deq, decide_not, ne_eq, Bool.not_and, Bool.not_or, Bool.not_not, Bool.and_true, Bool.true_and, Bool.or_false, Bool.false_or, Int.toNat_natCast] <;> first | rfl | ac_rfl)), ⟨⟩⟩
theorem c_spec_l29Ok (i f k : Int) : Sound ty Try.prog 183 [.a (.lit (.int .i64 i)), .a (.lit (.int .i64 f)), .a (.lit (.int .i64 k))] [.a (.lit (.bool (inr i 0 7 && inr f 0 7 && !(i == f) && okKey k)))] := by
  refine Sound.of X Try.call183 Try.func183 rfl rfl (by decide) Try.ntmps183 (by simp) ?_
  intro zb
  refine W.seq ?_
  refine W.reg X [] [] [0, 1, 2] [] rfl ⟨⟩ ?_
  refine W.seq ?_
  refine W.reg X [] [(8, ⟨false, [.a (.lit (.bool (inr i 0 7)))]⟩), (11, ⟨false, [.a (.lit (.bool (inr f 0 7)))]⟩), (20, ⟨false, [.a (.lit (.bool (okKey k)))]⟩)] [6] [] rfl (by (repeat' (first | with_reducible exact AllP.nil | with_reducible refine AllP.mk ?_ ?_ | with_reducible apply And.intro)) <;> skip; (iterate 3 (all_goals try (first | exact (c_spec_l1In i 0 7) | exact fun _ => (c_spec_l1In i 0 7) | exact fun _ _ => (c_spec_l1In i 0 7) | exact (c_spec_l1In f 0 7) | exact fun _ => (c_spec_l1In f 0 7) | exact fun _ _ => (c_spec_l1In f 0 7) | exact (c_spec_IsValidKey k) | exact fun _ => (c_spec_IsValidKey k) | exact fun _ _ => (c_spec_IsValidKey k)))); all_goals (first | (intros; omega) | exact rfl | exact El_all _ (by decide) | exact ⟨rfl, El_all _ (by decide)⟩ | ((intro h1; first | (intro h2; first | (intro h3; refine And.intro ?_ ?_) | refine And.intro ?_ ?_) | refine And.intro ?_ ?_) <;> first | omega | ((try simp only [nb, inr_t, inr_f] at *); (try simp (disch := omega) only [i64w]); omega)) | ((try simp only [nb, inr_t, inr_f] at *); (simp (disch := omega) only [i64w]); omega) | (refine fun _ => ?_; dsimp only [hyps, imps]; omega) | (refine fun _ _ => ?_; dsimp only [hyps, imps]; omega) | exact (u8w _).1 | exact (u8w _).2 | exact (u8n _).1 | exact (u8n _).2 | (simp only [byt, maxLen, lens]; omega) | (intros; simp only [nb] at *; omega))) ?_
  refine W.ret ?_
  exact Fin.ret rfl ⟨(congrArg Value.bool (by simp only [ite_tt, ite_ff, gt_iff_lt, ge_iff_le, not_dlt, not_dle, bne_not, deq, decide_not, ne_eq, Bool.not_and, Bool.not_or, Bool.not_not, Bool.and_true, Bool.true_and, Bool.or_false, Bool.false_or, Int.toNat_natCast] <;> first | rfl | ac_rfl)), ⟨⟩⟩
theorem c_spec_l29Bodies (l : List (List UInt8)) : Sound ty Try.prog 184 [.a (.sl (.sl .u8) l)] [.a (.lit (.bool (decide ((l.length : Int) ≤ 16) && !l.any long)))] := by
  refine Sound.of X Try.call184 Try.func184 rfl rfl (by decide) Try.ntmps184 (by simp) ?_
  intro zb
  refine W.bound 0 rfl (fun hll => ?_)
  refine W.seq ?_
  refine W.reg X [] [] [0] [] rfl ⟨⟩ ?_
  refine W.seq ?_
  refine W.seq ?_
  refine W.reg X [] [] [0, 3] [] rfl ⟨⟩ ?_
  refine W.block ?_
  refine W.loopO (fun k => k ≤ l.length ∧ (l.take k).any long = false) (fun k : Nat => [(3, .one (.a (.lit (.int .i64 k))))]) (fun k => []) (fun k => l.length - k) 0 (fun k => rfl) ⟨Nat.zero_le _, rfl⟩ rfl ?_
  rintro k ⟨hk, hall⟩
  refine W.seq ?_
  refine W.seq ?_
  refine W.reg X [] [] [0, 3, 7] [] rfl ⟨⟩ ?_
  refine W.cond rfl (fun hb0 => ?_) (fun hb0 => ?_)
  · try simp only [nb, inr_t, inr_f, isEmpty_t] at hb0
    refine W.skip ?_
    refine W.seq ?_
    refine W.block ?_
    refine W.seq ?_
    refine W.reg X [] [] [0, 3, 15] [] rfl (by (repeat' (first | exact True.intro | apply And.intro)) <;> first | (intros; omega) | exact rfl | exact El_all _ (by decide) | exact ⟨rfl, El_all _ (by decide)⟩ | ((intro h1; first | (intro h2; first | (intro h3; refine And.intro ?_ ?_) | refine And.intro ?_ ?_) | refine And.intro ?_ ?_) <;> first | omega | ((try simp only [nb, inr_t, inr_f] at *); (try simp (disch := omega) only [i64w]); omega)) | ((try simp only [nb, inr_t, inr_f] at *); (simp (disch := omega) only [i64w]); omega) | (refine fun _ => ?_; dsimp only [hyps, imps]; omega) | (refine fun _ _ => ?_; dsimp only [hyps, imps]; omega) | exact (u8w _).1 | exact (u8w _).2 | exact (u8n _).1 | exact (u8n _).2 | (simp only [byt, maxLen, lens]; omega) | (intros; simp only [nb] at *; omega)) ?_
    refine W.cond rfl (fun hb1 => ?_) (fun hb1 => ?_)
    · skip
      refine W.seq ?_
      refine W.reg X [] [] [2] [] rfl ⟨⟩ ?_
      refine W.ret ?_
      exact Fin.ret rfl ⟨by rw [any_yes l long (dfl (.sl .u8)) k hb0 hb1]; simp, ⟨⟩⟩
    · skip
      refine W.skip ?_
      refine W.reg X [] [] [0, 3] [] rfl ⟨⟩ ?_
      refine ⟨k + 1, ⟨by omega, any_no (dfl (.sl .u8)) hb0 hall hb1⟩, by omega, ?_⟩
      rw [wadd _ k rfl (by omega)]
      try rfl
  · try simp only [nb, inr_t, inr_f, isEmpty_t] at hb0
    have hall2 : l.any long = false := by rw [← hall, List.take_of_length_le hb0]
    refine W.exit ?_
    refine W.seq ?_
    refine W.reg X [] [] [2] [] rfl ⟨⟩ ?_
    refine W.ret ?_
    exact Fin.ret rfl ⟨by rw [hall2]; simp, ⟨⟩⟩
theorem c_spec_IsValidClient (c : Cli) : Sound ty Try.prog 173 [.agg (dec_Cli c)] [.a (.lit (.bool (okCli c)))] := by
  refine Sound.of X Try.call173 Try.func173 rfl rfl (by decide) Try.ntmps173 (by simp) ?_
  intro zb
  refine W.seq ?_
  refine W.reg X [] [] [1] [] rfl ⟨⟩ ?_
  refine W.seq ?_
  refine W.reg X [] [(9, ⟨false, [.a (.lit (.bool (inr c.id 0 7 && inr c.friend 0 7 && !(c.id == c.friend) && okKey c.key)))]⟩), (13, ⟨false, [.a (.lit (.bool (decide ((c.submitted.length : Int) ≤ 16) && !c.submitted.any long)))]⟩), (18, ⟨false, [.a (.lit (.bool (decide ((c.inbox.length : Int) ≤ 16) && !c.inbox.any long)))]⟩), (26, ⟨false, [.a (.lit (.bool (inr c.sent 0 (c.submitted.length : Int))))]⟩), (31, ⟨false, [.a (.lit (.bool (inr c.next 0 100000)))]⟩)] [2] [] rfl (by (repeat' (first | with_reducible exact AllP.nil | with_reducible refine AllP.mk ?_ ?_ | with_reducible apply And.intro)) <;> skip; (iterate 5 (all_goals try (first | exact (c_spec_l29Ok c.id c.friend c.key) | exact fun _ => (c_spec_l29Ok c.id c.friend c.key) | exact fun _ _ => (c_spec_l29Ok c.id c.friend c.key) | exact (c_spec_l29Bodies c.submitted) | exact fun _ => (c_spec_l29Bodies c.submitted) | exact fun _ _ => (c_spec_l29Bodies c.submitted) | exact (c_spec_l29Bodies c.inbox) | exact fun _ => (c_spec_l29Bodies c.inbox) | exact fun _ _ => (c_spec_l29Bodies c.inbox) | exact (c_spec_l1In c.sent 0 (c.submitted.length : Int)) | exact fun _ => (c_spec_l1In c.sent 0 (c.submitted.length : Int)) | exact fun _ _ => (c_spec_l1In c.sent 0 (c.submitted.length : Int)) | exact (c_spec_l1In c.next 0 100000) | exact fun _ => (c_spec_l1In c.next 0 100000) | exact fun _ _ => (c_spec_l1In c.next 0 100000)))); all_goals (first | (intros; omega) | exact rfl | exact El_all _ (by decide) | exact ⟨rfl, El_all _ (by decide)⟩ | ((intro h1; first | (intro h2; first | (intro h3; refine And.intro ?_ ?_) | refine And.intro ?_ ?_) | refine And.intro ?_ ?_) <;> first | omega | ((try simp only [nb, inr_t, inr_f] at *); (try simp (disch := omega) only [i64w]); omega)) | ((try simp only [nb, inr_t, inr_f] at *); (simp (disch := omega) only [i64w]); omega) | (refine fun _ => ?_; dsimp only [hyps, imps]; omega) | (refine fun _ _ => ?_; dsimp only [hyps, imps]; omega) | exact (u8w _).1 | exact (u8w _).2 | exact (u8n _).1 | exact (u8n _).2 | (simp only [byt, maxLen, lens]; omega) | (intros; simp only [nb] at *; omega))) ?_
  refine W.ret ?_
  exact Fin.ret rfl ⟨(congrArg Value.bool (by simp only [okCli, ite_tt, ite_ff, gt_iff_lt, ge_iff_le, not_dlt, not_dle, bne_not, deq, decide_not, ne_eq, Bool.not_and, Bool.not_or, Bool.not_not, Bool.and_true, Bool.true_and, Bool.or_false, Bool.false_or, Int.toNat_natCast] <;> first | rfl | ac_rfl)), ⟨⟩⟩
theorem c_impl_sameOwner (a b : Cli) : Sound ty Try.prog 148 [.agg (dec_Cli a), .agg (dec_Cli b)] [.a (.lit (.bool (sameOwn a b)))] := by
  refine Sound.of X Try.call148 Try.func148 rfl rfl (by decide) Try.ntmps148 (by simp) ?_
  intro zb
  refine W.seq ?_
  refine W.reg X [] [] [2, 3] [] rfl ⟨⟩ ?_
  refine W.seq ?_
  refine W.reg X [] [(36, ⟨false, [.a (.lit (.bool (a.submitted == b.submitted)))]⟩)] [4] [] rfl (by (repeat' (first | with_reducible exact AllP.nil | with_reducible refine AllP.mk ?_ ?_ | with_reducible apply And.intro)) <;> skip; (iterate 1 (all_goals try (first | exact (c_impl_EqualLists a.submitted b.submitted) | exact fun _ => (c_impl_EqualLists a.submitted b.submitted) | exact fun _ _ => (c_impl_EqualLists a.submitted b.submitted)))); all_goals (first | (intros; omega) | exact rfl | exact El_all _ (by decide) | exact ⟨rfl, El_all _ (by decide)⟩ | ((intro h1; first | (intro h2; first | (intro h3; refine And.intro ?_ ?_) | refine And.intro ?_ ?_) | refine And.intro ?_ ?_) <;> first | omega | ((try simp only [nb, inr_t, inr_f] at *); (try simp (disch := omega) only [i64w]); omega)) | ((try simp only [nb, inr_t, inr_f] at *); (simp (disch := omega) only [i64w]); omega) | (refine fun _ => ?_; dsimp only [hyps, imps]; omega) | (refine fun _ _ => ?_; dsimp only [hyps, imps]; omega) | exact (u8w _).1 | exact (u8w _).2 | exact (u8n _).1 | exact (u8n _).2 | (simp only [byt, maxLen, lens]; omega) | (intros; simp only [nb] at *; omega))) ?_
  refine W.ret ?_
  exact Fin.ret rfl ⟨(congrArg Value.bool (by simp only [sameOwn, ite_tt, ite_ff, gt_iff_lt, ge_iff_le, not_dlt, not_dle, bne_not, deq, decide_not, ne_eq, Bool.not_and, Bool.not_or, Bool.not_not, Bool.and_true, Bool.true_and, Bool.or_false, Bool.false_or, Int.toNat_natCast] <;> first | rfl | ac_rfl)), ⟨⟩⟩
theorem c_impl_isPrefix (a b : List (List UInt8)) : Sound ty Try.prog 69 [.a (.sl (.sl .u8) a), .a (.sl (.sl .u8) b)] [.a (.lit (.bool (preL a b)))] := by
  refine Sound.of X Try.call69 Try.func69 rfl rfl (by decide) Try.ntmps69 (by simp) ?_
  intro zb
  refine W.seq ?_
  refine W.reg X [] [] [0, 1] [] rfl ⟨⟩ ?_
  refine W.seq ?_
  refine W.reg X [] [(16, ⟨false, [.a (.lit (.bool (a == ((b.take (a.length : Int).toNat).drop (0 : Int).toNat))))]⟩)] [4] [] rfl (by (repeat' (first | with_reducible exact AllP.nil | with_reducible refine AllP.mk ?_ ?_ | with_reducible apply And.intro)) <;> skip; (iterate 1 (all_goals try (first | exact (c_impl_EqualLists a ((b.take (a.length : Int).toNat).drop (0 : Int).toNat)) | exact fun _ => (c_impl_EqualLists a ((b.take (a.length : Int).toNat).drop (0 : Int).toNat)) | exact fun _ _ => (c_impl_EqualLists a ((b.take (a.length : Int).toNat).drop (0 : Int).toNat))))); all_goals (first | (intros; omega) | exact rfl | exact El_all _ (by decide) | exact ⟨rfl, El_all _ (by decide)⟩ | ((intro h1; first | (intro h2; first | (intro h3; refine And.intro ?_ ?_) | refine And.intro ?_ ?_) | refine And.intro ?_ ?_) <;> first | omega | ((try simp only [nb, inr_t, inr_f] at *); (try simp (disch := omega) only [i64w]); omega)) | ((try simp only [nb, inr_t, inr_f] at *); (simp (disch := omega) only [i64w]); omega) | (refine fun _ => ?_; dsimp only [hyps, imps]; omega) | (refine fun _ _ => ?_; dsimp only [hyps, imps]; omega) | exact (u8w _).1 | exact (u8w _).2 | exact (u8n _).1 | exact (u8n _).2 | (simp only [byt, maxLen, lens]; omega) | (intros; simp only [nb] at *; omega))) ?_
  refine W.ret ?_
  exact Fin.ret rfl ⟨(congrArg Value.bool (by simp only [preL, List.drop_zero, Int.toNat_zero, ite_tt, ite_ff, gt_iff_lt, ge_iff_le, not_dlt, not_dle, bne_not, deq, decide_not, ne_eq, Bool.not_and, Bool.not_or, Bool.not_not, Bool.and_true, Bool.true_and, Bool.or_false, Bool.false_or, Int.toNat_natCast] <;> first | rfl | ac_rfl)), ⟨⟩⟩
theorem c_impl_IsValidDevice (d : Dev) : Sound ty Try.prog 120 [.agg (dec_Dev d)] [.a (.lit (.bool (okDev d)))] := by
  refine Sound.of X Try.call120 Try.func120 rfl rfl (by decide) Try.ntmps120 (by simp) ?_
  intro zb
  refine W.seq ?_
  refine W.reg X [] [] [1] [] rfl ⟨⟩ ?_
  refine W.seq ?_
  refine W.reg X [] [(5, ⟨false, [.a (.lit (.bool (okCli d.live)))]⟩), (9, ⟨false, [.a (.lit (.bool (okCli d.saved)))]⟩), (16, ⟨false, [.a (.lit (.bool (sameOwn d.live d.saved)))]⟩), (43, ⟨false, [.a (.lit (.bool (preL d.saved.inbox d.live.inbox)))]⟩)] [2] [] rfl (by (repeat' (first | with_reducible exact AllP.nil | with_reducible refine AllP.mk ?_ ?_ | with_reducible apply And.intro)) <;> skip; (iterate 4 (all_goals try (first | exact (c_impl_IsValidClient d.live) | exact fun _ => (c_impl_IsValidClient d.live) | exact fun _ _ => (c_impl_IsValidClient d.live) | exact (c_impl_IsValidClient d.saved) | exact fun _ => (c_impl_IsValidClient d.saved) | exact fun _ _ => (c_impl_IsValidClient d.saved) | exact (c_impl_sameOwner d.live d.saved) | exact fun _ => (c_impl_sameOwner d.live d.saved) | exact fun _ _ => (c_impl_sameOwner d.live d.saved) | exact (c_impl_isPrefix d.saved.inbox d.live.inbox) | exact fun _ => (c_impl_isPrefix d.saved.inbox d.live.inbox) | exact fun _ _ => (c_impl_isPrefix d.saved.inbox d.live.inbox)))); all_goals (first | (intros; omega) | exact rfl | exact El_all _ (by decide) | exact ⟨rfl, El_all _ (by decide)⟩ | ((intro h1; first | (intro h2; first | (intro h3; refine And.intro ?_ ?_) | refine And.intro ?_ ?_) | refine And.intro ?_ ?_) <;> first | omega | ((try simp only [nb, inr_t, inr_f] at *); (try simp (disch := omega) only [i64w]); omega)) | ((try simp only [nb, inr_t, inr_f] at *); (simp (disch := omega) only [i64w]); omega) | (refine fun _ => ?_; dsimp only [hyps, imps]; omega) | (refine fun _ _ => ?_; dsimp only [hyps, imps]; omega) | exact (u8w _).1 | exact (u8w _).2 | exact (u8n _).1 | exact (u8n _).2 | (simp only [byt, maxLen, lens]; omega) | (intros; simp only [nb] at *; omega))) ?_
  refine W.ret ?_
  exact Fin.ret rfl ⟨(congrArg Value.bool (by simp only [okDev, ite_tt, ite_ff, gt_iff_lt, ge_iff_le, not_dlt, not_dle, bne_not, deq, decide_not, ne_eq, Bool.not_and, Bool.not_or, Bool.not_not, Bool.and_true, Bool.true_and, Bool.or_false, Bool.false_or, Int.toNat_natCast] <;> first | rfl | ac_rfl)), ⟨⟩⟩
theorem c_spec_IsValidDevice (d : Dev) : Sound ty Try.prog 144 [.agg (dec_Dev d)] [.a (.lit (.bool (okDev d)))] := by
  refine Sound.of X Try.call144 Try.func144 rfl rfl (by decide) Try.ntmps144 (by simp) ?_
  intro zb
  refine W.seq ?_
  refine W.reg X [] [] [1] [] rfl ⟨⟩ ?_
  refine W.seq ?_
  refine W.reg X [] [] [1, 3] [] rfl ⟨⟩ ?_
  refine W.seq ?_
  refine W.reg X [] [] [3, 4] [] rfl ⟨⟩ ?_
  refine W.seq ?_
  refine W.seq ?_
  refine W.reg X [] [(10, ⟨false, [.a (.lit (.bool (okCli d.live)))]⟩), (14, ⟨false, [.a (.lit (.bool (okCli d.saved)))]⟩), (50, ⟨false, [.a (.lit (.bool (d.live.submitted == d.saved.submitted)))]⟩)] [3, 4, 52] [] rfl (by (repeat' (first | with_reducible exact AllP.nil | with_reducible refine AllP.mk ?_ ?_ | with_reducible apply And.intro)) <;> skip; (iterate 3 (all_goals try (first | exact (c_spec_IsValidClient d.live) | exact fun _ => (c_spec_IsValidClient d.live) | exact fun _ _ => (c_spec_IsValidClient d.live) | exact (c_spec_IsValidClient d.saved) | exact fun _ => (c_spec_IsValidClient d.saved) | exact fun _ _ => (c_spec_IsValidClient d.saved) | exact (c_spec_EqualLists d.live.submitted d.saved.submitted) | exact fun _ => (c_spec_EqualLists d.live.submitted d.saved.submitted) | exact fun _ _ => (c_spec_EqualLists d.live.submitted d.saved.submitted)))); all_goals (first | (intros; omega) | exact rfl | exact El_all _ (by decide) | exact ⟨rfl, El_all _ (by decide)⟩ | ((intro h1; first | (intro h2; first | (intro h3; refine And.intro ?_ ?_) | refine And.intro ?_ ?_) | refine And.intro ?_ ?_) <;> first | omega | ((try simp only [nb, inr_t, inr_f] at *); (try simp (disch := omega) only [i64w]); omega)) | ((try simp only [nb, inr_t, inr_f] at *); (simp (disch := omega) only [i64w]); omega) | (refine fun _ => ?_; dsimp only [hyps, imps]; omega) | (refine fun _ _ => ?_; dsimp only [hyps, imps]; omega) | exact (u8w _).1 | exact (u8w _).2 | exact (u8n _).1 | exact (u8n _).2 | (simp only [byt, maxLen, lens]; omega) | (intros; simp only [nb] at *; omega))) ?_
  refine W.cond rfl (fun hb0 => ?_) (fun hb0 => ?_)
  · skip
    refine W.seq ?_
    refine W.reg X [] [] [2] [] rfl ⟨⟩ ?_
    refine W.ret ?_
    exact Fin.ret rfl ⟨by rw [show okDev d = false from by rw [okDev, or_no1 (R := okCli d.live && okCli d.saved && sameOwn d.live d.saved) hb0 (by simp only [sameOwn, ite_tt, ite_ff, gt_iff_lt, ge_iff_le, not_dlt, not_dle, bne_not, deq, decide_not, ne_eq, Bool.not_and, Bool.not_or, Bool.not_not, Bool.and_true, Bool.true_and, Bool.or_false, Bool.false_or, Int.toNat_natCast] <;> first | rfl | ac_rfl)]; rfl], ⟨⟩⟩
  · have hh : (okCli d.live && okCli d.saved && sameOwn d.live d.saved) = true := or_yes hb0 (by simp only [sameOwn, ite_tt, ite_ff, gt_iff_lt, ge_iff_le, not_dlt, not_dle, bne_not, deq, decide_not, ne_eq, Bool.not_and, Bool.not_or, Bool.not_not, Bool.and_true, Bool.true_and, Bool.or_false, Bool.false_or, Int.toNat_natCast] <;> first | rfl | ac_rfl)
    refine W.skip ?_
    refine W.seq ?_
    refine W.draw X [] [(83, ⟨false, [.a (.lit (.bool (d.saved.inbox == ((d.live.inbox.take (d.saved.inbox.length : Int).toNat).drop (0 : Int).toNat))))]⟩)] [2] [] 33 MO (by kernel_rfl) rfl (by (repeat' (first | with_reducible exact AllP.nil | with_reducible refine AllP.mk ?_ ?_ | with_reducible apply And.intro)) <;> skip; (iterate 1 (all_goals try (first | exact (c_spec_EqualLists d.saved.inbox ((d.live.inbox.take (d.saved.inbox.length : Int).toNat).drop (0 : Int).toNat)) | exact fun _ => (c_spec_EqualLists d.saved.inbox ((d.live.inbox.take (d.saved.inbox.length : Int).toNat).drop (0 : Int).toNat)) | exact fun _ _ => (c_spec_EqualLists d.saved.inbox ((d.live.inbox.take (d.saved.inbox.length : Int).toNat).drop (0 : Int).toNat))))); all_goals (first | (intros; omega) | exact rfl | exact El_all _ (by decide) | exact ⟨rfl, El_all _ (by decide)⟩ | ((intro h1; first | (intro h2; first | (intro h3; refine And.intro ?_ ?_) | refine And.intro ?_ ?_) | refine And.intro ?_ ?_) <;> first | omega | ((try simp only [nb, inr_t, inr_f] at *); (try simp (disch := omega) only [i64w]); omega)) | ((try simp only [nb, inr_t, inr_f] at *); (simp (disch := omega) only [i64w]); omega) | (refine fun _ => ?_; dsimp only [hyps, imps]; omega) | (refine fun _ _ => ?_; dsimp only [hyps, imps]; omega) | exact (u8w _).1 | exact (u8w _).2 | exact (u8n _).1 | exact (u8n _).2 | (simp only [byt, maxLen, lens]; omega) | (intros; simp only [nb] at *; omega))) ?_
    refine W.ret ?_
    exact Fin.ret rfl ⟨(congrArg Value.bool (by simp only [okDev, hh, preL, List.drop_zero, Int.toNat_zero, ite_tt, ite_ff, gt_iff_lt, ge_iff_le, not_dlt, not_dle, bne_not, deq, decide_not, ne_eq, Bool.not_and, Bool.not_or, Bool.not_not, Bool.and_true, Bool.true_and, Bool.or_false, Bool.false_or, Int.toNat_natCast] <;> first | rfl | ac_rfl)), ⟨⟩⟩
end Go.Proofs.Ytfiaikmlnemnfaa.G
namespace Go.Proofs.Ytfiaikmlnemnfaa.G
set_option linter.all false
open Go.RowKit L D
set_option maxRecDepth 100000
theorem c_impl_IsValidWorld (x : Wld) : Sound ty Try.prog 82 [.agg (dec_Wld x)] [.a (.lit (.bool (okW x)))] := by
  refine Sound.of X Try.call82 Try.func82 rfl rfl (by decide) Try.ntmps82 (by simp) ?_
  intro zb
  refine W.boundA 0 1 rfl rfl (fun hl1 => ?_)
  refine W.boundA 0 2 rfl rfl (fun hl2 => ?_)
  refine W.seq ?_
  refine W.reg X [] [] [1] [] rfl ⟨⟩ ?_
  refine W.seq ?_
  refine W.seq ?_
  refine W.draw X [] [(10, ⟨false, [.a (.lit (.bool (inr x.rows 1 64)))]⟩), (16, ⟨false, [.a (.lit (.bool (srvCnt (x.servers.length : Int))))]⟩), (23, ⟨false, [.a (.lit (.bool (inr (x.devices.length : Int) 2 8)))]⟩), (36, ⟨false, [.a (.lit (.bool (okArc x.archive)))]⟩), (50, ⟨false, [.a (.lit (.int .i64 (lastR x.archive)))]⟩), (58, ⟨false, [.a (.lit (.bool (okKey x.master)))]⟩), (64, ⟨false, [.a (.lit (.bool (inr x.round 0 100000)))]⟩)] [1, 71] [] 64 MO (by kernel_rfl) rfl (by (repeat' (first | with_reducible exact AllP.nil | with_reducible refine AllP.mk ?_ ?_ | with_reducible apply And.intro)) <;> skip; (iterate 7 (all_goals try (first | exact (c_impl_InRange x.rows 1 64) | exact fun _ => (c_impl_InRange x.rows 1 64) | exact fun _ _ => (c_impl_InRange x.rows 1 64) | exact (c_impl_isServerCount (x.servers.length : Int)) | exact fun _ => (c_impl_isServerCount (x.servers.length : Int)) | exact fun _ _ => (c_impl_isServerCount (x.servers.length : Int)) | exact (c_impl_InRange (x.devices.length : Int) 2 8) | exact fun _ => (c_impl_InRange (x.devices.length : Int) 2 8) | exact fun _ _ => (c_impl_InRange (x.devices.length : Int) 2 8) | exact (c_impl_IsValidArchive x.archive) | exact fun _ => (c_impl_IsValidArchive x.archive) | exact fun _ _ => (c_impl_IsValidArchive x.archive) | exact (c_impl_LastRound x.archive) | exact fun _ => (c_impl_LastRound x.archive) | exact fun _ _ => (c_impl_LastRound x.archive) | exact (c_impl_IsValidKey x.master) | exact fun _ => (c_impl_IsValidKey x.master) | exact fun _ _ => (c_impl_IsValidKey x.master) | exact (c_impl_InRange x.round 0 100000) | exact fun _ => (c_impl_InRange x.round 0 100000) | exact fun _ _ => (c_impl_InRange x.round 0 100000)))); all_goals (first | (intros; omega) | exact rfl | exact El_all _ (by decide) | exact ⟨rfl, El_all _ (by decide)⟩ | ((intro h1; first | (intro h2; first | (intro h3; refine And.intro ?_ ?_) | refine And.intro ?_ ?_) | refine And.intro ?_ ?_) <;> first | omega | ((try simp only [nb, inr_t, inr_f] at *); (try simp (disch := omega) only [i64w]); omega)) | ((try simp only [nb, inr_t, inr_f] at *); (simp (disch := omega) only [i64w]); omega) | (refine fun _ => ?_; dsimp only [hyps, imps]; omega) | (refine fun _ _ => ?_; dsimp only [hyps, imps]; omega) | exact (u8w _).1 | exact (u8w _).2 | exact (u8n _).1 | exact (u8n _).2 | (simp only [byt, maxLen, lens]; omega) | (intros; simp only [nb] at *; omega))) ?_
  refine W.cond rfl (fun hb0 => ?_) (fun hb0 => ?_)
  · skip
    refine W.seq ?_
    refine W.reg X [] [] [2] [] rfl ⟨⟩ ?_
    refine W.ret ?_
    exact Fin.ret rfl ⟨by rw [show okW x = false from by rw [okW, or_no1 (R := hdW x) hb0 (by simp only [hdW, ite_tt, ite_ff, gt_iff_lt, ge_iff_le, not_dlt, not_dle, bne_not, deq, decide_not, ne_eq, Bool.not_and, Bool.not_or, Bool.not_not, Bool.and_true, Bool.true_and, Bool.or_false, Bool.false_or, Int.toNat_natCast] <;> first | rfl | ac_rfl)]; rfl], ⟨⟩⟩
  · have hh : hdW x = true := or_yes hb0 (by simp only [hdW, ite_tt, ite_ff, gt_iff_lt, ge_iff_le, not_dlt, not_dle, bne_not, deq, decide_not, ne_eq, Bool.not_and, Bool.not_or, Bool.not_not, Bool.and_true, Bool.true_and, Bool.or_false, Bool.false_or, Int.toNat_natCast] <;> first | rfl | ac_rfl)
    obtain ⟨hev, hd8, _⟩ := hdW_dev hh
    refine W.skip ?_
    refine W.seq ?_
    refine W.seq ?_
    refine W.reg X [] [] [1, 73, 74, 75] [] rfl ⟨⟩ ?_
    refine W.block ?_
    refine W.loopO (fun k => k ≤ x.servers.length ∧ (List.range k).all (okS x) = true) (fun k : Nat => [(75, .one (.a (.lit (.int .i64 k))))]) (fun k => []) (fun k => x.servers.length - k) 0 (fun k => rfl) ⟨Nat.zero_le _, rfl⟩ rfl ?_
    rintro k ⟨hk, hall⟩
    refine W.seq ?_
    refine W.reg X [] [] [1, 73, 74, 75, 76] [] rfl ⟨⟩ ?_
    refine W.seq ?_
    refine W.cond rfl (fun hb1 => ?_) (fun hb1 => ?_)
    · try simp only [nb, inr_t, inr_f, isEmpty_t] at hb1
      refine W.skip ?_
      refine W.seq ?_
      refine W.block ?_
      refine W.seq ?_
      refine W.reg X [] [] [1, 3, 4, 73, 74, 75] [] rfl (by (repeat' (first | exact True.intro | apply And.intro)) <;> first | (intros; omega) | exact rfl | exact El_all _ (by decide) | exact ⟨rfl, El_all _ (by decide)⟩ | ((intro h1; first | (intro h2; first | (intro h3; refine And.intro ?_ ?_) | refine And.intro ?_ ?_) | refine And.intro ?_ ?_) <;> first | omega | ((try simp only [nb, inr_t, inr_f] at *); (try simp (disch := omega) only [i64w]); omega)) | ((try simp only [nb, inr_t, inr_f] at *); (simp (disch := omega) only [i64w]); omega) | (refine fun _ => ?_; dsimp only [hyps, imps]; omega) | (refine fun _ _ => ?_; dsimp only [hyps, imps]; omega) | exact (u8w _).1 | exact (u8w _).2 | exact (u8n _).1 | exact (u8n _).2 | (simp only [byt, maxLen, lens]; omega) | (intros; simp only [nb] at *; omega)) ?_
      refine W.seq ?_
      refine W.reg X [] [(81, ⟨false, [.a (.lit (.bool (okSrv (x.servers.getD k (dfl .Srv)))))]⟩)] [1, 73, 74, 75, 108] [] rfl (by (repeat' (first | with_reducible exact AllP.nil | with_reducible refine AllP.mk ?_ ?_ | with_reducible apply And.intro)) <;> skip; (iterate 1 (all_goals try (first | exact (c_impl_IsValidServer (x.servers.getD k (dfl .Srv))) | exact fun _ => (c_impl_IsValidServer (x.servers.getD k (dfl .Srv))) | exact fun _ _ => (c_impl_IsValidServer (x.servers.getD k (dfl .Srv)))))); all_goals (first | (intros; omega) | exact rfl | exact El_all _ (by decide) | exact ⟨rfl, El_all _ (by decide)⟩ | ((intro h1; first | (intro h2; first | (intro h3; refine And.intro ?_ ?_) | refine And.intro ?_ ?_) | refine And.intro ?_ ?_) <;> first | omega | ((try simp only [nb, inr_t, inr_f] at *); (try simp (disch := omega) only [i64w]); omega)) | ((try simp only [nb, inr_t, inr_f] at *); (simp (disch := omega) only [i64w]); omega) | (refine fun _ => ?_; dsimp only [hyps, imps]; omega) | (refine fun _ _ => ?_; dsimp only [hyps, imps]; omega) | exact (u8w _).1 | exact (u8w _).2 | exact (u8n _).1 | exact (u8n _).2 | (simp only [byt, maxLen, lens]; omega) | (intros; simp only [nb] at *; omega))) ?_
      refine W.cond rfl (fun hb2 => ?_) (fun hb2 => ?_)
      · have hk2 : okS x k = false := or_no1 hb2 (by simp only [okS, ite_tt, ite_ff, gt_iff_lt, ge_iff_le, not_dlt, not_dle, bne_not, deq, decide_not, ne_eq, Bool.not_and, Bool.not_or, Bool.not_not, Bool.and_true, Bool.true_and, Bool.or_false, Bool.false_or, Int.toNat_natCast] <;> first | rfl | ac_rfl)
        refine W.seq ?_
        refine W.reg X [] [] [2] [] rfl ⟨⟩ ?_
        refine W.ret ?_
        exact Fin.ret rfl ⟨by rw [show okW x = false from by rw [okW, range_no hb1 hk2]; simp], ⟨⟩⟩
      · have hk2 : okS x k = true := or_yes hb2 (by simp only [okS, ite_tt, ite_ff, gt_iff_lt, ge_iff_le, not_dlt, not_dle, bne_not, deq, decide_not, ne_eq, Bool.not_and, Bool.not_or, Bool.not_not, Bool.and_true, Bool.true_and, Bool.or_false, Bool.false_or, Int.toNat_natCast] <;> first | rfl | ac_rfl)
        refine W.skip ?_
        refine W.reg X [] [] [1, 73, 74, 75] [] rfl ⟨⟩ ?_
        refine ⟨k + 1, ⟨by omega, range_all hall hk2⟩, by omega, ?_⟩
        rw [wadd _ k rfl (by omega)]
        try rfl
    · try simp only [nb, inr_t, inr_f, isEmpty_t] at hb1
      have hall2 : (List.range x.servers.length).all (okS x) = true := by rw [show x.servers.length = k by omega]; exact hall
      refine W.exit ?_
      refine W.seq ?_
      refine W.seq ?_
      refine W.reg X [] [] [1, 111, 112, 113] [] rfl ⟨⟩ ?_
      refine W.block ?_
      refine W.loopO (fun k1 => k1 ≤ x.devices.length ∧ (List.range k1).all (okD x) = true) (fun k1 : Nat => [(113, .one (.a (.lit (.int .i64 k1))))]) (fun k1 => []) (fun k1 => x.devices.length - k1) 0 (fun k1 => rfl) ⟨Nat.zero_le _, rfl⟩ rfl ?_
      rintro k1 ⟨hk1, hall1⟩
      refine W.seq ?_
      refine W.reg X [] [] [1, 111, 112, 113, 114] [] rfl ⟨⟩ ?_
      refine W.seq ?_
      refine W.cond rfl (fun hb3 => ?_) (fun hb3 => ?_)
      · try simp only [nb, inr_t, inr_f, isEmpty_t] at hb3
        have hx := xorN k1 (by omega)
        have hlt := xor_lt k1 x.devices.length hb3 hev
        refine W.skip ?_
        refine W.seq ?_
        refine W.block ?_
        refine W.seq ?_
        refine W.reg X [] [] [1, 5, 6, 111, 112, 113] [] rfl (by (repeat' (first | exact True.intro | apply And.intro)) <;> first | (intros; omega) | exact rfl | exact El_all _ (by decide) | exact ⟨rfl, El_all _ (by decide)⟩ | ((intro h1; first | (intro h2; first | (intro h3; refine And.intro ?_ ?_) | refine And.intro ?_ ?_) | refine And.intro ?_ ?_) <;> first | omega | ((try simp only [nb, inr_t, inr_f] at *); (try simp (disch := omega) only [i64w]); omega)) | ((try simp only [nb, inr_t, inr_f] at *); (simp (disch := omega) only [i64w]); omega) | (refine fun _ => ?_; dsimp only [hyps, imps]; omega) | (refine fun _ _ => ?_; dsimp only [hyps, imps]; omega) | exact (u8w _).1 | exact (u8w _).2 | exact (u8n _).1 | exact (u8n _).2 | (simp only [byt, maxLen, lens]; omega) | (intros; simp only [nb] at *; omega)) ?_
        refine W.seq ?_
        refine W.reg X [] [] [1, 5, 6, 7, 111, 112, 113] [] rfl ⟨⟩ ?_
        refine W.seq ?_
        refine W.draw X [] [(121, ⟨false, [.a (.lit (.bool (okDev (x.devices.getD k1 (dfl .Dev)))))]⟩)] [1, 111, 112, 113, 155] [] 36 MO (by kernel_rfl) rfl (by (repeat' (first | with_reducible exact AllP.nil | with_reducible refine AllP.mk ?_ ?_ | with_reducible apply And.intro)) <;> skip; (iterate 1 (all_goals try (first | exact (c_impl_IsValidDevice (x.devices.getD k1 (dfl .Dev))) | exact fun _ => (c_impl_IsValidDevice (x.devices.getD k1 (dfl .Dev))) | exact fun _ _ => (c_impl_IsValidDevice (x.devices.getD k1 (dfl .Dev)))))); all_goals (first | (intros; omega) | exact rfl | exact El_all _ (by decide) | exact ⟨rfl, El_all _ (by decide)⟩ | ((intro h1; first | (intro h2; first | (intro h3; refine And.intro ?_ ?_) | refine And.intro ?_ ?_) | refine And.intro ?_ ?_) <;> first | omega | ((try simp only [nb, inr_t, inr_f] at *); (try simp (disch := omega) only [i64w]); omega)) | ((try simp only [nb, inr_t, inr_f] at *); (simp (disch := omega) only [i64w]); omega) | (refine fun _ => ?_; dsimp only [hyps, imps]; omega) | (refine fun _ _ => ?_; dsimp only [hyps, imps]; omega) | exact (u8w _).1 | exact (u8w _).2 | exact (u8n _).1 | exact (u8n _).2 | (simp only [byt, maxLen, lens]; omega) | (intros; simp only [nb] at *; omega))) ?_
        refine W.cond rfl (fun hb4 => ?_) (fun hb4 => ?_)
        · have hk3 : okD x k1 = false := or_no1 hb4 (by simp only [okD, hx, ite_tt, ite_ff, gt_iff_lt, ge_iff_le, not_dlt, not_dle, bne_not, deq, decide_not, ne_eq, Bool.not_and, Bool.not_or, Bool.not_not, Bool.and_true, Bool.true_and, Bool.or_false, Bool.false_or, Int.toNat_natCast] <;> first | rfl | ac_rfl)
          refine W.seq ?_
          refine W.reg X [] [] [2] [] rfl ⟨⟩ ?_
          refine W.ret ?_
          exact Fin.ret rfl ⟨by rw [show okW x = false from by rw [okW, range_no hb3 hk3]; simp], ⟨⟩⟩
        · have hk3 : okD x k1 = true := or_yes hb4 (by simp only [okD, hx, ite_tt, ite_ff, gt_iff_lt, ge_iff_le, not_dlt, not_dle, bne_not, deq, decide_not, ne_eq, Bool.not_and, Bool.not_or, Bool.not_not, Bool.and_true, Bool.true_and, Bool.or_false, Bool.false_or, Int.toNat_natCast] <;> first | rfl | ac_rfl)
          refine W.skip ?_
          refine W.reg X [] [] [1, 111, 112, 113] [] rfl ⟨⟩ ?_
          refine ⟨k1 + 1, ⟨by omega, range_all hall1 hk3⟩, by omega, ?_⟩
          rw [wadd _ k1 rfl (by omega)]
          try rfl
      · try simp only [nb, inr_t, inr_f, isEmpty_t] at hb3
        have hall3 : (List.range x.devices.length).all (okD x) = true := by rw [show x.devices.length = k1 by omega]; exact hall1
        refine W.exit ?_
        refine W.seq ?_
        refine W.reg X [] [] [2] [] rfl ⟨⟩ ?_
        refine W.ret ?_
        exact Fin.ret rfl ⟨by rw [okW, hh, hall2, hall3]; rfl, ⟨⟩⟩
theorem c_spec_l32Servers (x : Wld) : Sound ty Try.prog 110 [.agg (dec_Wld x)] [.a (.lit (.bool (svW x)))] := by
  refine Sound.of X Try.call110 Try.func110 rfl rfl (by decide) Try.ntmps110 (by simp) ?_
  intro zb
  refine W.boundA 0 1 rfl rfl (fun hl1 => ?_)
  refine W.boundA 0 2 rfl rfl (fun hl2 => ?_)
  refine W.seq ?_
  refine W.reg X [] [] [1] [] rfl ⟨⟩ ?_
  refine W.seq ?_
  refine W.seq ?_
  refine W.reg X [] [] [1, 3] [] rfl ⟨⟩ ?_
  refine W.block ?_
  refine W.loopO (fun k => k ≤ x.servers.length ∧ (List.range k).all (okS x) = true) (fun k : Nat => [(3, .one (.a (.lit (.int .i64 k))))]) (fun k => []) (fun k => x.servers.length - k) 0 (fun k => rfl) ⟨Nat.zero_le _, rfl⟩ rfl ?_
  rintro k ⟨hk, hall⟩
  refine W.seq ?_
  refine W.seq ?_
  refine W.reg X [] [] [1, 3, 9] [] rfl ⟨⟩ ?_
  refine W.cond rfl (fun hb0 => ?_) (fun hb0 => ?_)
  · try simp only [nb, inr_t, inr_f, isEmpty_t] at hb0
    refine W.skip ?_
    refine W.seq ?_
    refine W.block ?_
    refine W.seq ?_
    refine W.reg X [] [] [1, 3, 4] [] rfl (by (repeat' (first | exact True.intro | apply And.intro)) <;> first | (intros; omega) | exact rfl | exact El_all _ (by decide) | exact ⟨rfl, El_all _ (by decide)⟩ | ((intro h1; first | (intro h2; first | (intro h3; refine And.intro ?_ ?_) | refine And.intro ?_ ?_) | refine And.intro ?_ ?_) <;> first | omega | ((try simp only [nb, inr_t, inr_f] at *); (try simp (disch := omega) only [i64w]); omega)) | ((try simp only [nb, inr_t, inr_f] at *); (simp (disch := omega) only [i64w]); omega) | (refine fun _ => ?_; dsimp only [hyps, imps]; omega) | (refine fun _ _ => ?_; dsimp only [hyps, imps]; omega) | exact (u8w _).1 | exact (u8w _).2 | exact (u8n _).1 | exact (u8n _).2 | (simp only [byt, maxLen, lens]; omega) | (intros; simp only [nb] at *; omega)) ?_
    refine W.seq ?_
    refine W.reg X [] [(18, ⟨false, [.a (.lit (.bool (okSrv (x.servers.getD k (dfl .Srv)))))]⟩)] [1, 3, 45] [] rfl (by (repeat' (first | with_reducible exact AllP.nil | with_reducible refine AllP.mk ?_ ?_ | with_reducible apply And.intro)) <;> skip; (iterate 1 (all_goals try (first | exact (c_spec_IsValidServer (x.servers.getD k (dfl .Srv))) | exact fun _ => (c_spec_IsValidServer (x.servers.getD k (dfl .Srv))) | exact fun _ _ => (c_spec_IsValidServer (x.servers.getD k (dfl .Srv)))))); all_goals (first | (intros; omega) | exact rfl | exact El_all _ (by decide) | exact ⟨rfl, El_all _ (by decide)⟩ | ((intro h1; first | (intro h2; first | (intro h3; refine And.intro ?_ ?_) | refine And.intro ?_ ?_) | refine And.intro ?_ ?_) <;> first | omega | ((try simp only [nb, inr_t, inr_f] at *); (try simp (disch := omega) only [i64w]); omega)) | ((try simp only [nb, inr_t, inr_f] at *); (simp (disch := omega) only [i64w]); omega) | (refine fun _ => ?_; dsimp only [hyps, imps]; omega) | (refine fun _ _ => ?_; dsimp only [hyps, imps]; omega) | exact (u8w _).1 | exact (u8w _).2 | exact (u8n _).1 | exact (u8n _).2 | (simp only [byt, maxLen, lens]; omega) | (intros; simp only [nb] at *; omega))) ?_
    refine W.cond rfl (fun hb1 => ?_) (fun hb1 => ?_)
    · have hk2 : okS x k = false := or_no1 hb1 (by simp only [okS, ite_tt, ite_ff, gt_iff_lt, ge_iff_le, not_dlt, not_dle, bne_not, deq, decide_not, ne_eq, Bool.not_and, Bool.not_or, Bool.not_not, Bool.and_true, Bool.true_and, Bool.or_false, Bool.false_or, Int.toNat_natCast] <;> first | rfl | ac_rfl)
      refine W.seq ?_
      refine W.reg X [] [] [2] [] rfl ⟨⟩ ?_
      refine W.ret ?_
      exact Fin.ret rfl ⟨by rw [show svW x = false from by rw [svW, range_no hb0 hk2]; simp], ⟨⟩⟩
    · have hk2 : okS x k = true := or_yes hb1 (by simp only [okS, ite_tt, ite_ff, gt_iff_lt, ge_iff_le, not_dlt, not_dle, bne_not, deq, decide_not, ne_eq, Bool.not_and, Bool.not_or, Bool.not_not, Bool.and_true, Bool.true_and, Bool.or_false, Bool.false_or, Int.toNat_natCast] <;> first | rfl | ac_rfl)
      refine W.skip ?_
      refine W.reg X [] [] [1, 3] [] rfl ⟨⟩ ?_
      refine ⟨k + 1, ⟨by omega, range_all hall hk2⟩, by omega, ?_⟩
      rw [wadd _ k rfl (by omega)]
      try rfl
  · try simp only [nb, inr_t, inr_f, isEmpty_t] at hb0
    have hall2 : (List.range x.servers.length).all (okS x) = true := by rw [show x.servers.length = k by omega]; exact hall
    refine W.exit ?_
    refine W.seq ?_
    refine W.reg X [] [(49, ⟨false, [.a (.lit (.bool _))]⟩)] [2] [] rfl (by (repeat' (first | with_reducible exact AllP.nil | with_reducible refine AllP.mk ?_ ?_ | with_reducible apply And.intro)) <;> skip; (iterate 1 (all_goals try (first | exact (c_spec_l7Count _) | exact fun _ => (c_spec_l7Count _) | exact fun _ _ => (c_spec_l7Count _)))); all_goals (first | (intros; omega) | exact rfl | exact El_all _ (by decide) | exact ⟨rfl, El_all _ (by decide)⟩ | ((intro h1; first | (intro h2; first | (intro h3; refine And.intro ?_ ?_) | refine And.intro ?_ ?_) | refine And.intro ?_ ?_) <;> first | omega | ((try simp only [nb, inr_t, inr_f] at *); (try simp (disch := omega) only [i64w]); omega)) | ((try simp only [nb, inr_t, inr_f] at *); (simp (disch := omega) only [i64w]); omega) | (refine fun _ => ?_; dsimp only [hyps, imps]; omega) | (refine fun _ _ => ?_; dsimp only [hyps, imps]; omega) | exact (u8w _).1 | exact (u8w _).2 | exact (u8n _).1 | exact (u8n _).2 | (simp only [byt, maxLen, lens]; omega) | (intros; simp only [nb] at *; omega))) ?_
    refine W.ret ?_
    exact Fin.ret rfl ⟨by rw [svW, hall2]; rfl, ⟨⟩⟩
theorem c_spec_l32Devices (x : Wld) : Sound ty Try.prog 111 [.agg (dec_Wld x)] [.a (.lit (.bool (dvW x)))] := by
  refine Sound.of X Try.call111 Try.func111 rfl rfl (by decide) Try.ntmps111 (by simp) ?_
  intro zb
  refine W.boundA 0 1 rfl rfl (fun hl1 => ?_)
  refine W.boundA 0 2 rfl rfl (fun hl2 => ?_)
  refine W.seq ?_
  refine W.reg X [] [] [1] [] rfl ⟨⟩ ?_
  refine W.seq ?_
  refine W.reg X [] [] [1, 3] [] rfl ⟨⟩ ?_
  refine W.seq ?_
  refine W.seq ?_
  refine W.reg X [] [(14, ⟨false, [.a (.lit (.bool (inr (x.devices.length : Int) 2 8)))]⟩)] [1, 3, 16] [] rfl (by (repeat' (first | with_reducible exact AllP.nil | with_reducible refine AllP.mk ?_ ?_ | with_reducible apply And.intro)) <;> skip; (iterate 1 (all_goals try (first | exact (c_spec_l1In (x.devices.length : Int) 2 8) | exact fun _ => (c_spec_l1In (x.devices.length : Int) 2 8) | exact fun _ _ => (c_spec_l1In (x.devices.length : Int) 2 8)))); all_goals (first | (intros; omega) | exact rfl | exact El_all _ (by decide) | exact ⟨rfl, El_all _ (by decide)⟩ | ((intro h1; first | (intro h2; first | (intro h3; refine And.intro ?_ ?_) | refine And.intro ?_ ?_) | refine And.intro ?_ ?_) <;> first | omega | ((try simp only [nb, inr_t, inr_f] at *); (try simp (disch := omega) only [i64w]); omega)) | ((try simp only [nb, inr_t, inr_f] at *); (simp (disch := omega) only [i64w]); omega) | (refine fun _ => ?_; dsimp only [hyps, imps]; omega) | (refine fun _ _ => ?_; dsimp only [hyps, imps]; omega) | exact (u8w _).1 | exact (u8w _).2 | exact (u8n _).1 | exact (u8n _).2 | (simp only [byt, maxLen, lens]; omega) | (intros; simp only [nb] at *; omega))) ?_
  refine W.cond rfl (fun hb0 => ?_) (fun hb0 => ?_)
  · skip
    refine W.seq ?_
    refine W.reg X [] [] [2] [] rfl ⟨⟩ ?_
    refine W.ret ?_
    exact Fin.ret rfl ⟨by rw [show dvW x = false from by rw [dvW, or_no1 (R := ((x.devices.length : Int).tmod 2 == 0) && inr x.devices.length 2 8) hb0 (by simp only [ite_tt, ite_ff, gt_iff_lt, ge_iff_le, not_dlt, not_dle, bne_not, deq, decide_not, ne_eq, Bool.not_and, Bool.not_or, Bool.not_not, Bool.and_true, Bool.true_and, Bool.or_false, Bool.false_or, Int.toNat_natCast] <;> first | rfl | ac_rfl)]; rfl], ⟨⟩⟩
  · have hh : (((x.devices.length : Int).tmod 2 == 0) && inr x.devices.length 2 8) = true := or_yes hb0 (by simp only [ite_tt, ite_ff, gt_iff_lt, ge_iff_le, not_dlt, not_dle, bne_not, deq, decide_not, ne_eq, Bool.not_and, Bool.not_or, Bool.not_not, Bool.and_true, Bool.true_and, Bool.or_false, Bool.false_or, Int.toNat_natCast] <;> first | rfl | ac_rfl)
    have hev : x.devices.length % 2 = 0 := by simp only [Bool.and_eq_true, beq_iff_eq] at hh; have := hh.1; rw [tmod_pos (by omega)] at this; omega
    have hd8 : x.devices.length ≤ 8 := by simp only [Bool.and_eq_true, inr_t] at hh; omega
    refine W.skip ?_
    refine W.seq ?_
    refine W.seq ?_
    refine W.reg X [] [] [1, 3, 4] [] rfl ⟨⟩ ?_
    refine W.block ?_
    refine W.loopO (fun k => k ≤ x.devices.length ∧ (List.range k).all (okD x) = true) (fun k : Nat => [(4, .one (.a (.lit (.int .i64 k))))]) (fun k => []) (fun k => x.devices.length - k) 0 (fun k => rfl) ⟨Nat.zero_le _, rfl⟩ rfl ?_
    rintro k ⟨hk, hall⟩
    refine W.seq ?_
    refine W.seq ?_
    refine W.reg X [] [] [1, 3, 4, 19] [] rfl ⟨⟩ ?_
    refine W.cond rfl (fun hb1 => ?_) (fun hb1 => ?_)
    · try simp only [nb, inr_t, inr_f, isEmpty_t] at hb1
      have hx := xorN k (by omega)
      have hlt := xor_lt k x.devices.length hb1 hev
      refine W.skip ?_
      refine W.seq ?_
      refine W.block ?_
      refine W.seq ?_
      refine W.reg X [] [] [1, 3, 4, 5] [] rfl (by (repeat' (first | exact True.intro | apply And.intro)) <;> first | (intros; omega) | exact rfl | exact El_all _ (by decide) | exact ⟨rfl, El_all _ (by decide)⟩ | ((intro h1; first | (intro h2; first | (intro h3; refine And.intro ?_ ?_) | refine And.intro ?_ ?_) | refine And.intro ?_ ?_) <;> first | omega | ((try simp only [nb, inr_t, inr_f] at *); (try simp (disch := omega) only [i64w]); omega)) | ((try simp only [nb, inr_t, inr_f] at *); (simp (disch := omega) only [i64w]); omega) | (refine fun _ => ?_; dsimp only [hyps, imps]; omega) | (refine fun _ _ => ?_; dsimp only [hyps, imps]; omega) | exact (u8w _).1 | exact (u8w _).2 | exact (u8n _).1 | exact (u8n _).2 | (simp only [byt, maxLen, lens]; omega) | (intros; simp only [nb] at *; omega)) ?_
      refine W.seq ?_
      refine W.draw X [] [(28, ⟨false, [.a (.lit (.bool (okDev (x.devices.getD k (dfl .Dev)))))]⟩)] [1, 3, 4, 66] [] 40 MO (by kernel_rfl) rfl (by (repeat' (first | with_reducible exact AllP.nil | with_reducible refine AllP.mk ?_ ?_ | with_reducible apply And.intro)) <;> skip; (iterate 1 (all_goals try (first | exact (c_spec_IsValidDevice (x.devices.getD k (dfl .Dev))) | exact fun _ => (c_spec_IsValidDevice (x.devices.getD k (dfl .Dev))) | exact fun _ _ => (c_spec_IsValidDevice (x.devices.getD k (dfl .Dev)))))); all_goals (first | (intros; omega) | exact rfl | exact El_all _ (by decide) | exact ⟨rfl, El_all _ (by decide)⟩ | ((intro h1; first | (intro h2; first | (intro h3; refine And.intro ?_ ?_) | refine And.intro ?_ ?_) | refine And.intro ?_ ?_) <;> first | omega | ((try simp only [nb, inr_t, inr_f] at *); (try simp (disch := omega) only [i64w]); omega)) | ((try simp only [nb, inr_t, inr_f] at *); (simp (disch := omega) only [i64w]); omega) | (refine fun _ => ?_; dsimp only [hyps, imps]; omega) | (refine fun _ _ => ?_; dsimp only [hyps, imps]; omega) | exact (u8w _).1 | exact (u8w _).2 | exact (u8n _).1 | exact (u8n _).2 | (simp only [byt, maxLen, lens]; omega) | (intros; simp only [nb] at *; omega))) ?_
      refine W.cond rfl (fun hb2 => ?_) (fun hb2 => ?_)
      · have hk3 : okD x k = false := or_no1 hb2 (by simp only [okD, hx, ite_tt, ite_ff, gt_iff_lt, ge_iff_le, not_dlt, not_dle, bne_not, deq, decide_not, ne_eq, Bool.not_and, Bool.not_or, Bool.not_not, Bool.and_true, Bool.true_and, Bool.or_false, Bool.false_or, Int.toNat_natCast] <;> first | rfl | ac_rfl)
        refine W.seq ?_
        refine W.reg X [] [] [2] [] rfl ⟨⟩ ?_
        refine W.ret ?_
        exact Fin.ret rfl ⟨by rw [show dvW x = false from by rw [dvW, range_no hb1 hk3]; simp], ⟨⟩⟩
      · have hk3 : okD x k = true := or_yes hb2 (by simp only [okD, hx, ite_tt, ite_ff, gt_iff_lt, ge_iff_le, not_dlt, not_dle, bne_not, deq, decide_not, ne_eq, Bool.not_and, Bool.not_or, Bool.not_not, Bool.and_true, Bool.true_and, Bool.or_false, Bool.false_or, Int.toNat_natCast] <;> first | rfl | ac_rfl)
        refine W.skip ?_
        refine W.reg X [] [] [1, 3, 4] [] rfl ⟨⟩ ?_
        refine ⟨k + 1, ⟨by omega, range_all hall hk3⟩, by omega, ?_⟩
        rw [wadd _ k rfl (by omega)]
        try rfl
    · try simp only [nb, inr_t, inr_f, isEmpty_t] at hb1
      have hall3 : (List.range x.devices.length).all (okD x) = true := by rw [show x.devices.length = k by omega]; exact hall
      refine W.exit ?_
      refine W.seq ?_
      refine W.reg X [] [] [2] [] rfl ⟨⟩ ?_
      refine W.ret ?_
      exact Fin.ret rfl ⟨by rw [dvW, hh, hall3]; rfl, ⟨⟩⟩
theorem c_spec_IsValidWorld (x : Wld) : Sound ty Try.prog 81 [.agg (dec_Wld x)] [.a (.lit (.bool (okW x)))] := by
  refine Sound.of X Try.call81 Try.func81 rfl rfl (by decide) Try.ntmps81 (by simp) ?_
  intro zb
  refine W.seq ?_
  refine W.reg X [] [] [1] [] rfl ⟨⟩ ?_
  refine W.seq ?_
  refine W.draw X [] [(5, ⟨false, [.a (.lit (.bool (inr x.rows 1 64)))]⟩), (9, ⟨false, [.a (.lit (.bool (inr x.round 0 100000)))]⟩), (13, ⟨false, [.a (.lit (.bool (svW x)))]⟩), (17, ⟨false, [.a (.lit (.bool (dvW x)))]⟩), (22, ⟨false, [.a (.lit (.bool (okArc x.archive)))]⟩), (35, ⟨false, [.a (.lit (.int .i64 (lastR x.archive)))]⟩), (43, ⟨false, [.a (.lit (.bool (okKey x.master)))]⟩)] [2] [] 48 MO (by kernel_rfl) rfl (by (repeat' (first | with_reducible exact AllP.nil | with_reducible refine AllP.mk ?_ ?_ | with_reducible apply And.intro)) <;> skip; (iterate 7 (all_goals try (first | exact (c_spec_l1In x.rows 1 64) | exact fun _ => (c_spec_l1In x.rows 1 64) | exact fun _ _ => (c_spec_l1In x.rows 1 64) | exact (c_spec_l1In x.round 0 100000) | exact fun _ => (c_spec_l1In x.round 0 100000) | exact fun _ _ => (c_spec_l1In x.round 0 100000) | exact (c_spec_l32Servers x) | exact fun _ => (c_spec_l32Servers x) | exact fun _ _ => (c_spec_l32Servers x) | exact (c_spec_l32Devices x) | exact fun _ => (c_spec_l32Devices x) | exact fun _ _ => (c_spec_l32Devices x) | exact (c_spec_IsValidArchive x.archive) | exact fun _ => (c_spec_IsValidArchive x.archive) | exact fun _ _ => (c_spec_IsValidArchive x.archive) | exact (c_spec_LastRound x.archive) | exact fun _ => (c_spec_LastRound x.archive) | exact fun _ _ => (c_spec_LastRound x.archive) | exact (c_spec_IsValidKey x.master) | exact fun _ => (c_spec_IsValidKey x.master) | exact fun _ _ => (c_spec_IsValidKey x.master)))); all_goals (first | (intros; omega) | exact rfl | exact El_all _ (by decide) | exact ⟨rfl, El_all _ (by decide)⟩ | ((intro h1; first | (intro h2; first | (intro h3; refine And.intro ?_ ?_) | refine And.intro ?_ ?_) | refine And.intro ?_ ?_) <;> first | omega | ((try simp only [nb, inr_t, inr_f] at *); (try simp (disch := omega) only [i64w]); omega)) | ((try simp only [nb, inr_t, inr_f] at *); (simp (disch := omega) only [i64w]); omega) | (refine fun _ => ?_; dsimp only [hyps, imps]; omega) | (refine fun _ _ => ?_; dsimp only [hyps, imps]; omega) | exact (u8w _).1 | exact (u8w _).2 | exact (u8n _).1 | exact (u8n _).2 | (simp only [byt, maxLen, lens]; omega) | (intros; simp only [nb] at *; omega))) ?_
  refine W.ret ?_
  exact Fin.ret rfl ⟨(congrArg Value.bool (by simp only [okW, hdW, svW, dvW, ite_tt, ite_ff, gt_iff_lt, ge_iff_le, not_dlt, not_dle, bne_not, deq, decide_not, ne_eq, Bool.not_and, Bool.not_or, Bool.not_not, Bool.and_true, Bool.true_and, Bool.or_false, Bool.false_or, Int.toNat_natCast] <;> first | rfl | ac_rfl)), ⟨⟩⟩
theorem c_impl_SealCell (key c : Int) (p : Plain) : Sound ty Try.prog 128 [.a (.lit (.int .i64 key)), .a (.lit (.int .i64 c)), .agg (dec_Plain p)] [.a (.sl .u8 (sealC key c p)), .a (.lit (.bool (sealOK key c p)))] := by
  refine Sound.of X Try.call128 Try.func128 rfl rfl (by decide) Try.ntmps128 (by simp) ?_
  intro zb
  refine W.seq ?_
  refine W.reg X [] [] [0, 1, 5] [] rfl ⟨⟩ ?_
  refine W.seq ?_
  refine W.seq ?_
  refine W.reg X [] [(11, ⟨false, [.a (.lit (.bool (okKey key)))]⟩), (15, ⟨false, [.a (.lit (.bool (inr c 0 1000000000000)))]⟩), (20, ⟨false, [.a (.lit (.bool (okPlain p)))]⟩)] [0, 1, 5, 22] [] rfl (by (repeat' (first | with_reducible exact AllP.nil | with_reducible refine AllP.mk ?_ ?_ | with_reducible apply And.intro)) <;> skip; (iterate 3 (all_goals try (first | exact (c_impl_IsValidKey key) | exact fun _ => (c_impl_IsValidKey key) | exact fun _ _ => (c_impl_IsValidKey key) | exact (c_impl_InRange c 0 1000000000000) | exact fun _ => (c_impl_InRange c 0 1000000000000) | exact fun _ _ => (c_impl_InRange c 0 1000000000000) | exact (c_impl_IsValidPlain p) | exact fun _ => (c_impl_IsValidPlain p) | exact fun _ _ => (c_impl_IsValidPlain p)))); all_goals (first | (intros; omega) | exact rfl | exact El_all _ (by decide) | exact ⟨rfl, El_all _ (by decide)⟩ | ((intro h1; first | (intro h2; first | (intro h3; refine And.intro ?_ ?_) | refine And.intro ?_ ?_) | refine And.intro ?_ ?_) <;> first | omega | ((try simp only [nb, inr_t, inr_f] at *); (try simp (disch := omega) only [i64w]); omega)) | ((try simp only [nb, inr_t, inr_f] at *); (simp (disch := omega) only [i64w]); omega) | (refine fun _ => ?_; dsimp only [hyps, imps]; omega) | (refine fun _ _ => ?_; dsimp only [hyps, imps]; omega) | exact (u8w _).1 | exact (u8w _).2 | exact (u8n _).1 | exact (u8n _).2 | (simp only [byt, maxLen, lens]; omega) | (intros; simp only [nb] at *; omega))) ?_
  refine W.cond rfl (fun hb0 => ?_) (fun hb0 => ?_)
  · have hk : sealOK key c p = false := or_no1 hb0 (by simp only [sealOK, ite_tt, ite_ff, gt_iff_lt, ge_iff_le, not_dlt, not_dle, bne_not, deq, decide_not, ne_eq, Bool.not_and, Bool.not_or, Bool.not_not, Bool.and_true, Bool.true_and, Bool.or_false, Bool.false_or, Int.toNat_natCast] <;> first | rfl | ac_rfl)
    refine W.seq ?_
    refine W.reg X [] [] [6, 7] [] rfl ⟨⟩ ?_
    refine W.ret ?_
    exact Fin.ret rfl ⟨by rw [sealC, if_neg (by rw [hk]; decide)], by rw [hk], ⟨⟩⟩
  · have hk : sealOK key c p = true := or_yes hb0 (by simp only [sealOK, ite_tt, ite_ff, gt_iff_lt, ge_iff_le, not_dlt, not_dle, bne_not, deq, decide_not, ne_eq, Bool.not_and, Bool.not_or, Bool.not_not, Bool.and_true, Bool.true_and, Bool.or_false, Bool.false_or, Int.toNat_natCast] <;> first | rfl | ac_rfl)
    have hp := sealOK_body hk
    have hst : (stream (kh key [61, c]) (18 : Int).toNat).length = 18 := stream_len _ _
    have hpl : (padded key c p).length ≤ 100 := by unfold padded; simp only [List.length_append, List.length_drop, List.length_cons, List.length_nil, stream_len]; omega
    have hf4 : (four (ccheck key c (encr (ckey key c) (padded key c p)))).length = 4 := rfl
    have hel : (encr (ckey key c) (padded key c p)).length ≤ 100 := by rw [encr_len]; exact hpl
    refine W.skip ?_
    refine W.seq ?_
    refine W.reg X [(33, 30)] [] [0, 1, 5, 8] [] rfl (by (repeat' (first | exact True.intro | apply And.intro)) <;> first | (intros; omega) | exact rfl | exact El_all _ (by decide) | exact ⟨rfl, El_all _ (by decide)⟩ | ((intro h1; first | (intro h2; first | (intro h3; refine And.intro ?_ ?_) | refine And.intro ?_ ?_) | refine And.intro ?_ ?_) <;> first | omega | ((try simp only [nb, inr_t, inr_f] at *); (try simp (disch := omega) only [i64w]); omega)) | ((try simp only [nb, inr_t, inr_f] at *); (simp (disch := omega) only [i64w]); omega) | (refine fun _ => ?_; dsimp only [hyps, imps]; omega) | (refine fun _ _ => ?_; dsimp only [hyps, imps]; omega) | exact (u8w _).1 | exact (u8w _).2 | exact (u8n _).1 | exact (u8n _).2 | (simp only [byt, maxLen, lens]; omega) | (intros; simp only [nb] at *; omega)) ?_
    refine W.seq ?_
    refine W.draw X [(44, 30)] [(38, ⟨false, [.a (.lit (.int .i64 (kh key [61, c])))]⟩), (39, ⟨true, [.a (.sl .u8 (stream (kh key [61, c]) (18 : Int).toNat))]⟩)] [0, 1, 8] [] 10 MO (by kernel_rfl) rfl (by (repeat' (first | with_reducible exact AllP.nil | with_reducible refine AllP.mk ?_ ?_ | with_reducible apply And.intro)) <;> skip; (iterate 2 (all_goals try (first | exact (c_impl_KeyedHash key [61, c] (by first | assumption | omega | (simp; done) | (simp; omega))) | exact fun _ => (c_impl_KeyedHash key [61, c] (by first | assumption | omega | (simp; done) | (simp; omega))) | exact fun _ _ => (c_impl_KeyedHash key [61, c] (by first | assumption | omega | (simp; done) | (simp; omega))) | exact (c_impl_StreamBytes (kh key [61, c]) 18 (by first | assumption | omega | (simp; done) | (simp; omega)) (by first | assumption | omega | (simp; done) | (simp; omega))) | exact fun _ => (c_impl_StreamBytes (kh key [61, c]) 18 (by first | assumption | omega | (simp; done) | (simp; omega)) (by first | assumption | omega | (simp; done) | (simp; omega))) | exact fun _ _ => (c_impl_StreamBytes (kh key [61, c]) 18 (by first | assumption | omega | (simp; done) | (simp; omega)) (by first | assumption | omega | (simp; done) | (simp; omega)))))); all_goals (first | (intros; omega) | exact rfl | exact El_all _ (by decide) | exact ⟨rfl, El_all _ (by decide)⟩ | ((intro h1; first | (intro h2; first | (intro h3; refine And.intro ?_ ?_) | refine And.intro ?_ ?_) | refine And.intro ?_ ?_) <;> first | omega | ((try simp only [nb, inr_t, inr_f] at *); (try simp (disch := omega) only [i64w]); omega)) | ((try simp only [nb, inr_t, inr_f] at *); (simp (disch := omega) only [i64w]); omega) | (refine fun _ => ?_; dsimp only [hyps, imps]; omega) | (refine fun _ _ => ?_; dsimp only [hyps, imps]; omega) | exact (u8w _).1 | exact (u8w _).2 | exact (u8n _).1 | exact (u8n _).2 | (simp only [byt, maxLen, lens]; omega) | (intros; simp only [nb] at *; omega))) ?_
    refine W.seq ?_
    refine W.reg X [] [(47, ⟨false, [.a (.lit (.int .i64 (ckey key c)))]⟩), (49, ⟨true, [.a (.sl .u8 (encr (ckey key c) (padded key c p)))]⟩)] [0, 1, 9] [] rfl (by (repeat' (first | with_reducible exact AllP.nil | with_reducible refine AllP.mk ?_ ?_ | with_reducible apply And.intro)) <;> skip; (iterate 2 (all_goals try (first | exact (c_impl_cellKey key c) | exact fun _ => (c_impl_cellKey key c) | exact fun _ _ => (c_impl_cellKey key c) | exact (c_impl_Encrypt (ckey key c) (padded key c p) (by first | assumption | omega | (simp; done) | (simp; omega))) | exact fun _ => (c_impl_Encrypt (ckey key c) (padded key c p) (by first | assumption | omega | (simp; done) | (simp; omega))) | exact fun _ _ => (c_impl_Encrypt (ckey key c) (padded key c p) (by first | assumption | omega | (simp; done) | (simp; omega)))))); all_goals (first | (intros; omega) | exact rfl | exact El_all _ (by decide) | exact ⟨rfl, El_all _ (by decide)⟩ | ((intro h1; first | (intro h2; first | (intro h3; refine And.intro ?_ ?_) | refine And.intro ?_ ?_) | refine And.intro ?_ ?_) <;> first | omega | ((try simp only [nb, inr_t, inr_f] at *); (try simp (disch := omega) only [i64w]); omega)) | ((try simp only [nb, inr_t, inr_f] at *); (simp (disch := omega) only [i64w]); omega) | (refine fun _ => ?_; dsimp only [hyps, imps]; omega) | (refine fun _ _ => ?_; dsimp only [hyps, imps]; omega) | exact (u8w _).1 | exact (u8w _).2 | exact (u8n _).1 | exact (u8n _).2 | (simp only [byt, maxLen, lens]; omega) | (intros; simp only [nb] at *; omega))) ?_
    refine W.seq ?_
    refine W.reg X [(55, 49)] [(54, ⟨true, [.a (.sl .u8 (four (ccheck key c (encr (ckey key c) (padded key c p)))))]⟩)] [6, 7] [] rfl (by (repeat' (first | with_reducible exact AllP.nil | with_reducible refine AllP.mk ?_ ?_ | with_reducible apply And.intro)) <;> skip; (iterate 1 (all_goals try (first | exact (c_impl_checkBytes key c (encr (ckey key c) (padded key c p)) (by first | assumption | omega | (simp; done) | (simp; omega))) | exact fun _ => (c_impl_checkBytes key c (encr (ckey key c) (padded key c p)) (by first | assumption | omega | (simp; done) | (simp; omega))) | exact fun _ _ => (c_impl_checkBytes key c (encr (ckey key c) (padded key c p)) (by first | assumption | omega | (simp; done) | (simp; omega)))))); all_goals (first | (intros; omega) | exact rfl | exact El_all _ (by decide) | exact ⟨rfl, El_all _ (by decide)⟩ | ((intro h1; first | (intro h2; first | (intro h3; refine And.intro ?_ ?_) | refine And.intro ?_ ?_) | refine And.intro ?_ ?_) <;> first | omega | ((try simp only [nb, inr_t, inr_f] at *); (try simp (disch := omega) only [i64w]); omega)) | ((try simp only [nb, inr_t, inr_f] at *); (simp (disch := omega) only [i64w]); omega) | (refine fun _ => ?_; dsimp only [hyps, imps]; omega) | (refine fun _ _ => ?_; dsimp only [hyps, imps]; omega) | exact (u8w _).1 | exact (u8w _).2 | exact (u8n _).1 | exact (u8n _).2 | (simp only [byt, maxLen, lens]; omega) | (intros; simp only [nb] at *; omega))) ?_
    refine W.ret ?_
    exact Fin.ret rfl ⟨by rw [sealC, if_pos hk], by rw [hk], ⟨⟩⟩
theorem c_spec_SealCell (key c : Int) (p : Plain) : Sound ty Try.prog 123 [.a (.lit (.int .i64 key)), .a (.lit (.int .i64 c)), .agg (dec_Plain p)] [.a (.sl .u8 (sealC key c p)), .a (.lit (.bool (sealOK key c p)))] := by
  refine Sound.of X Try.call123 Try.func123 rfl rfl (by decide) Try.ntmps123 (by simp) ?_
  intro zb
  refine W.seq ?_
  refine W.reg X [] [] [0, 1, 5] [] rfl ⟨⟩ ?_
  refine W.seq ?_
  refine W.seq ?_
  refine W.reg X [] [(12, ⟨false, [.a (.lit (.bool (okKey key)))]⟩), (16, ⟨false, [.a (.lit (.bool (inr c 0 1000000000000)))]⟩), (21, ⟨false, [.a (.lit (.bool (okPlain p)))]⟩)] [0, 1, 5, 23] [] rfl (by (repeat' (first | with_reducible exact AllP.nil | with_reducible refine AllP.mk ?_ ?_ | with_reducible apply And.intro)) <;> skip; (iterate 3 (all_goals try (first | exact (c_spec_IsValidKey key) | exact fun _ => (c_spec_IsValidKey key) | exact fun _ _ => (c_spec_IsValidKey key) | exact (c_spec_l1In c 0 1000000000000) | exact fun _ => (c_spec_l1In c 0 1000000000000) | exact fun _ _ => (c_spec_l1In c 0 1000000000000) | exact (c_spec_IsValidPlain p) | exact fun _ => (c_spec_IsValidPlain p) | exact fun _ _ => (c_spec_IsValidPlain p)))); all_goals (first | (intros; omega) | exact rfl | exact El_all _ (by decide) | exact ⟨rfl, El_all _ (by decide)⟩ | ((intro h1; first | (intro h2; first | (intro h3; refine And.intro ?_ ?_) | refine And.intro ?_ ?_) | refine And.intro ?_ ?_) <;> first | omega | ((try simp only [nb, inr_t, inr_f] at *); (try simp (disch := omega) only [i64w]); omega)) | ((try simp only [nb, inr_t, inr_f] at *); (simp (disch := omega) only [i64w]); omega) | (refine fun _ => ?_; dsimp only [hyps, imps]; omega) | (refine fun _ _ => ?_; dsimp only [hyps, imps]; omega) | exact (u8w _).1 | exact (u8w _).2 | exact (u8n _).1 | exact (u8n _).2 | (simp only [byt, maxLen, lens]; omega) | (intros; simp only [nb] at *; omega))) ?_
  refine W.cond rfl (fun hb0 => ?_) (fun hb0 => ?_)
  · have hk : sealOK key c p = false := or_no1 hb0 (by simp only [sealOK, ite_tt, ite_ff, gt_iff_lt, ge_iff_le, not_dlt, not_dle, bne_not, deq, decide_not, ne_eq, Bool.not_and, Bool.not_or, Bool.not_not, Bool.and_true, Bool.true_and, Bool.or_false, Bool.false_or, Int.toNat_natCast] <;> first | rfl | ac_rfl)
    refine W.seq ?_
    refine W.reg X [] [] [6, 7] [] rfl (by (repeat' (first | exact True.intro | apply And.intro)) <;> first | (intros; omega) | exact rfl | exact El_all _ (by decide) | exact ⟨rfl, El_all _ (by decide)⟩ | ((intro h1; first | (intro h2; first | (intro h3; refine And.intro ?_ ?_) | refine And.intro ?_ ?_) | refine And.intro ?_ ?_) <;> first | omega | ((try simp only [nb, inr_t, inr_f] at *); (try simp (disch := omega) only [i64w]); omega)) | ((try simp only [nb, inr_t, inr_f] at *); (simp (disch := omega) only [i64w]); omega) | (refine fun _ => ?_; dsimp only [hyps, imps]; omega) | (refine fun _ _ => ?_; dsimp only [hyps, imps]; omega) | exact (u8w _).1 | exact (u8w _).2 | exact (u8n _).1 | exact (u8n _).2 | (simp only [byt, maxLen, lens]; omega) | (intros; simp only [nb] at *; omega)) ?_
    refine W.ret ?_
    exact Fin.ret rfl ⟨by rw [sealC, if_neg (by rw [hk]; decide)], by rw [hk], ⟨⟩⟩
  · have hk : sealOK key c p = true := or_yes hb0 (by simp only [sealOK, ite_tt, ite_ff, gt_iff_lt, ge_iff_le, not_dlt, not_dle, bne_not, deq, decide_not, ne_eq, Bool.not_and, Bool.not_or, Bool.not_not, Bool.and_true, Bool.true_and, Bool.or_false, Bool.false_or, Int.toNat_natCast] <;> first | rfl | ac_rfl)
    have hp := sealOK_body hk
    have hst : (stream (kh key [61, c]) (18 : Int).toNat).length = 18 := stream_len _ _
    have hpl : (padded key c p).length ≤ 100 := by unfold padded; simp only [List.length_append, List.length_drop, List.length_cons, List.length_nil, stream_len]; omega
    have hf4 : (four (ccheck key c (encr (ckey key c) (padded key c p)))).length = 4 := rfl
    have hel : (encr (ckey key c) (padded key c p)).length ≤ 100 := by rw [encr_len]; exact hpl
    refine W.skip ?_
    refine W.seq ?_
    refine W.reg X [(35, 32)] [] [0, 1, 5, 8] [] rfl (by (repeat' (first | exact True.intro | apply And.intro)) <;> first | (intros; omega) | exact rfl | exact El_all _ (by decide) | exact ⟨rfl, El_all _ (by decide)⟩ | ((intro h1; first | (intro h2; first | (intro h3; refine And.intro ?_ ?_) | refine And.intro ?_ ?_) | refine And.intro ?_ ?_) <;> first | omega | ((try simp only [nb, inr_t, inr_f] at *); (try simp (disch := omega) only [i64w]); omega)) | ((try simp only [nb, inr_t, inr_f] at *); (simp (disch := omega) only [i64w]); omega) | (refine fun _ => ?_; dsimp only [hyps, imps]; omega) | (refine fun _ _ => ?_; dsimp only [hyps, imps]; omega) | exact (u8w _).1 | exact (u8w _).2 | exact (u8n _).1 | exact (u8n _).2 | (simp only [byt, maxLen, lens]; omega) | (intros; simp only [nb] at *; omega)) ?_
    refine W.seq ?_
    refine W.draw X [(46, 32)] [(40, ⟨false, [.a (.lit (.int .i64 (kh key [61, c])))]⟩), (41, ⟨true, [.a (.sl .u8 (stream (kh key [61, c]) (18 : Int).toNat))]⟩)] [0, 1, 8] [] 10 MO (by kernel_rfl) rfl (by (repeat' (first | with_reducible exact AllP.nil | with_reducible refine AllP.mk ?_ ?_ | with_reducible apply And.intro)) <;> skip; (iterate 2 (all_goals try (first | exact (c_spec_KeyedHash key [61, c] (by first | assumption | omega | (simp; done) | (simp; omega))) | exact fun _ => (c_spec_KeyedHash key [61, c] (by first | assumption | omega | (simp; done) | (simp; omega))) | exact fun _ _ => (c_spec_KeyedHash key [61, c] (by first | assumption | omega | (simp; done) | (simp; omega))) | exact (c_spec_StreamBytes (kh key [61, c]) 18 (by first | assumption | omega | (simp; done) | (simp; omega)) (by first | assumption | omega | (simp; done) | (simp; omega))) | exact fun _ => (c_spec_StreamBytes (kh key [61, c]) 18 (by first | assumption | omega | (simp; done) | (simp; omega)) (by first | assumption | omega | (simp; done) | (simp; omega))) | exact fun _ _ => (c_spec_StreamBytes (kh key [61, c]) 18 (by first | assumption | omega | (simp; done) | (simp; omega)) (by first | assumption | omega | (simp; done) | (simp; omega)))))); all_goals (first | (intros; omega) | exact rfl | exact El_all _ (by decide) | exact ⟨rfl, El_all _ (by decide)⟩ | ((intro h1; first | (intro h2; first | (intro h3; refine And.intro ?_ ?_) | refine And.intro ?_ ?_) | refine And.intro ?_ ?_) <;> first | omega | ((try simp only [nb, inr_t, inr_f] at *); (try simp (disch := omega) only [i64w]); omega)) | ((try simp only [nb, inr_t, inr_f] at *); (simp (disch := omega) only [i64w]); omega) | (refine fun _ => ?_; dsimp only [hyps, imps]; omega) | (refine fun _ _ => ?_; dsimp only [hyps, imps]; omega) | exact (u8w _).1 | exact (u8w _).2 | exact (u8n _).1 | exact (u8n _).2 | (simp only [byt, maxLen, lens]; omega) | (intros; simp only [nb] at *; omega))) ?_
    refine W.seq ?_
    refine W.reg X [] [(49, ⟨false, [.a (.lit (.int .i64 (ckey key c)))]⟩), (51, ⟨true, [.a (.sl .u8 (encr (ckey key c) (padded key c p)))]⟩)] [0, 1, 9] [] rfl (by (repeat' (first | with_reducible exact AllP.nil | with_reducible refine AllP.mk ?_ ?_ | with_reducible apply And.intro)) <;> skip; (iterate 2 (all_goals try (first | exact (c_spec_l13Cipher key c) | exact fun _ => (c_spec_l13Cipher key c) | exact fun _ _ => (c_spec_l13Cipher key c) | exact (c_spec_Encrypt (ckey key c) (padded key c p) (by first | assumption | omega | (simp; done) | (simp; omega))) | exact fun _ => (c_spec_Encrypt (ckey key c) (padded key c p) (by first | assumption | omega | (simp; done) | (simp; omega))) | exact fun _ _ => (c_spec_Encrypt (ckey key c) (padded key c p) (by first | assumption | omega | (simp; done) | (simp; omega)))))); all_goals (first | (intros; omega) | exact rfl | exact El_all _ (by decide) | exact ⟨rfl, El_all _ (by decide)⟩ | ((intro h1; first | (intro h2; first | (intro h3; refine And.intro ?_ ?_) | refine And.intro ?_ ?_) | refine And.intro ?_ ?_) <;> first | omega | ((try simp only [nb, inr_t, inr_f] at *); (try simp (disch := omega) only [i64w]); omega)) | ((try simp only [nb, inr_t, inr_f] at *); (simp (disch := omega) only [i64w]); omega) | (refine fun _ => ?_; dsimp only [hyps, imps]; omega) | (refine fun _ _ => ?_; dsimp only [hyps, imps]; omega) | exact (u8w _).1 | exact (u8w _).2 | exact (u8n _).1 | exact (u8n _).2 | (simp only [byt, maxLen, lens]; omega) | (intros; simp only [nb] at *; omega))) ?_
    refine W.seq ?_
    refine W.reg X [] [(55, ⟨false, [.a (.lit (.int .i64 (ccheck key c (encr (ckey key c) (padded key c p)))))]⟩)] [9, 10] [] rfl (by (repeat' (first | with_reducible exact AllP.nil | with_reducible refine AllP.mk ?_ ?_ | with_reducible apply And.intro)) <;> skip; (iterate 1 (all_goals try (first | exact (c_spec_CellCheck key c (encr (ckey key c) (padded key c p)) (by first | assumption | omega | (simp; done) | (simp; omega))) | exact fun _ => (c_spec_CellCheck key c (encr (ckey key c) (padded key c p)) (by first | assumption | omega | (simp; done) | (simp; omega))) | exact fun _ _ => (c_spec_CellCheck key c (encr (ckey key c) (padded key c p)) (by first | assumption | omega | (simp; done) | (simp; omega)))))); all_goals (first | (intros; omega) | exact rfl | exact El_all _ (by decide) | exact ⟨rfl, El_all _ (by decide)⟩ | ((intro h1; first | (intro h2; first | (intro h3; refine And.intro ?_ ?_) | refine And.intro ?_ ?_) | refine And.intro ?_ ?_) <;> first | omega | ((try simp only [nb, inr_t, inr_f] at *); (try simp (disch := omega) only [i64w]); omega)) | ((try simp only [nb, inr_t, inr_f] at *); (simp (disch := omega) only [i64w]); omega) | (refine fun _ => ?_; dsimp only [hyps, imps]; omega) | (refine fun _ _ => ?_; dsimp only [hyps, imps]; omega) | exact (u8w _).1 | exact (u8w _).2 | exact (u8n _).1 | exact (u8n _).2 | (simp only [byt, maxLen, lens]; omega) | (intros; simp only [nb] at *; omega))) ?_
    refine W.seq ?_
    refine W.reg X [(69, 51)] [] [6, 7] [] rfl (by (repeat' (first | exact True.intro | apply And.intro)) <;> first | (intros; omega) | exact rfl | exact El_all _ (by decide) | exact ⟨rfl, El_all _ (by decide)⟩ | ((intro h1; first | (intro h2; first | (intro h3; refine And.intro ?_ ?_) | refine And.intro ?_ ?_) | refine And.intro ?_ ?_) <;> first | omega | ((try simp only [nb, inr_t, inr_f] at *); (try simp (disch := omega) only [i64w]); omega)) | ((try simp only [nb, inr_t, inr_f] at *); (simp (disch := omega) only [i64w]); omega) | (refine fun _ => ?_; dsimp only [hyps, imps]; omega) | (refine fun _ _ => ?_; dsimp only [hyps, imps]; omega) | exact (u8w _).1 | exact (u8w _).2 | exact (u8n _).1 | exact (u8n _).2 | (simp only [byt, maxLen, lens]; omega) | (intros; simp only [nb] at *; omega)) ?_
    refine W.ret ?_
    exact Fin.ret rfl ⟨(congrArg (fun z => encr (ckey key c) (padded key c p) ++ z) (four_eq _)).trans (by rw [sealC, if_pos hk]), by rw [hk], ⟨⟩⟩
theorem c_impl_hasClient (x : Wld) (c : Int) : Sound ty Try.prog 71 [.agg (dec_Wld x), .a (.lit (.int .i64 c))] [.a (.lit (.bool (hasC x c)))] := by
  refine Sound.of X Try.call71 Try.func71 rfl rfl (by decide) Try.ntmps71 (by simp) ?_
  intro zb
  refine W.boundA 0 2 rfl rfl (fun hl2 => ?_)
  refine W.seq ?_
  refine W.reg X [] [] [1, 2] [] rfl ⟨⟩ ?_
  refine W.seq ?_
  refine W.reg X [] [(10, ⟨false, [.a (.lit (.bool _))]⟩)] [4] [] rfl (by (repeat' (first | with_reducible exact AllP.nil | with_reducible refine AllP.mk ?_ ?_ | with_reducible apply And.intro)) <;> skip; (iterate 1 (all_goals try (first | exact (c_impl_InRange _ _ _) | exact fun _ => (c_impl_InRange _ _ _) | exact fun _ _ => (c_impl_InRange _ _ _)))); all_goals (first | (intros; omega) | exact rfl | exact El_all _ (by decide) | exact ⟨rfl, El_all _ (by decide)⟩ | ((intro h1; first | (intro h2; first | (intro h3; refine And.intro ?_ ?_) | refine And.intro ?_ ?_) | refine And.intro ?_ ?_) <;> first | omega | ((try simp only [nb, inr_t, inr_f] at *); (try simp (disch := omega) only [i64w]); omega)) | ((try simp only [nb, inr_t, inr_f] at *); (simp (disch := omega) only [i64w]); omega) | (refine fun _ => ?_; dsimp only [hyps, imps]; omega) | (refine fun _ _ => ?_; dsimp only [hyps, imps]; omega) | exact (u8w _).1 | exact (u8w _).2 | exact (u8n _).1 | exact (u8n _).2 | (simp only [byt, maxLen, lens]; omega) | (intros; simp only [nb] at *; omega))) ?_
  refine W.ret ?_
  exact Fin.ret rfl ⟨by rw [i64w (by omega)]; rfl, ⟨⟩⟩
theorem c_impl_hasPair (x : Wld) (c : Int) (hd : x.devices.length ≤ 1048576) : Sound ty Try.prog 62 [.agg (dec_Wld x), .a (.lit (.int .i64 c))] [.a (.lit (.bool (pairOK x c)))] := by
  refine Sound.of X Try.call62 Try.func62 rfl rfl (by decide) Try.ntmps62 (by simp) ?_
  intro zb
  refine W.seq ?_
  refine W.reg X [] [] [1, 2] [] rfl ⟨⟩ ?_
  refine W.seq ?_
  refine W.reg X [] [(7, ⟨false, [.a (.lit (.bool (hasC x c)))]⟩), (12, ⟨false, [.a (.lit (.bool (hasC x (IntKind.i64.wrap (BitVec.ofInt IntKind.i64.bits c ^^^ BitVec.ofInt IntKind.i64.bits 1).toNat))))]⟩)] [4] [] rfl (by (repeat' (first | with_reducible exact AllP.nil | with_reducible refine AllP.mk ?_ ?_ | with_reducible apply And.intro)) <;> skip; (iterate 2 (all_goals try (first | exact (c_impl_hasClient x c) | exact fun _ => (c_impl_hasClient x c) | exact fun _ _ => (c_impl_hasClient x c) | exact (c_impl_hasClient x (IntKind.i64.wrap (BitVec.ofInt IntKind.i64.bits c ^^^ BitVec.ofInt IntKind.i64.bits 1).toNat)) | exact fun _ => (c_impl_hasClient x (IntKind.i64.wrap (BitVec.ofInt IntKind.i64.bits c ^^^ BitVec.ofInt IntKind.i64.bits 1).toNat)) | exact fun _ _ => (c_impl_hasClient x (IntKind.i64.wrap (BitVec.ofInt IntKind.i64.bits c ^^^ BitVec.ofInt IntKind.i64.bits 1).toNat))))); all_goals (first | (intros; omega) | exact rfl | exact El_all _ (by decide) | exact ⟨rfl, El_all _ (by decide)⟩ | ((intro h1; first | (intro h2; first | (intro h3; refine And.intro ?_ ?_) | refine And.intro ?_ ?_) | refine And.intro ?_ ?_) <;> first | omega | ((try simp only [nb, inr_t, inr_f] at *); (try simp (disch := omega) only [i64w]); omega)) | ((try simp only [nb, inr_t, inr_f] at *); (simp (disch := omega) only [i64w]); omega) | (refine fun _ => ?_; dsimp only [hyps, imps]; omega) | (refine fun _ _ => ?_; dsimp only [hyps, imps]; omega) | exact (u8w _).1 | exact (u8w _).2 | exact (u8n _).1 | exact (u8n _).2 | (simp only [byt, maxLen, lens]; omega) | (intros; simp only [nb] at *; omega))) ?_
  refine W.ret ?_
  exact Fin.ret rfl ⟨by rw [ite_ff, pair_impl hd], ⟨⟩⟩
theorem c_spec_l37Pair (x : Wld) (c : Int) (hd : x.devices.length ≤ 1048576) : Sound ty Try.prog 67 [.agg (dec_Wld x), .a (.lit (.int .i64 c))] [.a (.lit (.bool (pairOK x c)))] := by
  refine Sound.of X Try.call67 Try.func67 rfl rfl (by decide) Try.ntmps67 (by simp) ?_
  intro zb
  refine W.seq ?_
  refine W.reg X [] [] [1, 2] [] rfl ⟨⟩ ?_
  refine W.seq ?_
  refine W.reg X [] [(10, ⟨false, [.a (.lit (.bool (inr c 0 (IntKind.i64.wrap ((x.devices.length : Int) - 1)))))]⟩)] [4] [] rfl (by (repeat' (first | with_reducible exact AllP.nil | with_reducible refine AllP.mk ?_ ?_ | with_reducible apply And.intro)) <;> skip; (iterate 1 (all_goals try (first | exact (c_spec_l1In c 0 (IntKind.i64.wrap ((x.devices.length : Int) - 1))) | exact fun _ => (c_spec_l1In c 0 (IntKind.i64.wrap ((x.devices.length : Int) - 1))) | exact fun _ _ => (c_spec_l1In c 0 (IntKind.i64.wrap ((x.devices.length : Int) - 1)))))); all_goals (first | (intros; omega) | exact rfl | exact El_all _ (by decide) | exact ⟨rfl, El_all _ (by decide)⟩ | ((intro h1; first | (intro h2; first | (intro h3; refine And.intro ?_ ?_) | refine And.intro ?_ ?_) | refine And.intro ?_ ?_) <;> first | omega | ((try simp only [nb, inr_t, inr_f] at *); (try simp (disch := omega) only [i64w]); omega)) | ((try simp only [nb, inr_t, inr_f] at *); (simp (disch := omega) only [i64w]); omega) | (refine fun _ => ?_; dsimp only [hyps, imps]; omega) | (refine fun _ _ => ?_; dsimp only [hyps, imps]; omega) | exact (u8w _).1 | exact (u8w _).2 | exact (u8n _).1 | exact (u8n _).2 | (simp only [byt, maxLen, lens]; omega) | (intros; simp only [nb] at *; omega))) ?_
  refine W.ret ?_
  exact Fin.ret rfl ⟨by rw [i64w (by omega), ite_ff, pair_spec hd], ⟨⟩⟩
theorem c_impl_direction (c : Cli) : Sound ty Try.prog 90 [.agg (dec_Cli c)] [.a (.lit (.int .i64 (dirn c)))] := by
  refine Sound.of X Try.call90 Try.func90 rfl rfl (by decide) Try.ntmps90 (by simp) ?_
  intro zb
  refine W.seq ?_
  refine W.reg X [] [] [1] [] rfl ⟨⟩ ?_
  refine W.seq ?_
  refine W.seq ?_
  refine W.reg X [] [] [7] [] rfl ⟨⟩ ?_
  refine W.cond rfl (fun hb0 => ?_) (fun hb0 => ?_)
  · try simp only [nb, inr_t, inr_f, isEmpty_t] at hb0
    refine W.seq ?_
    refine W.reg X [] [] [2] [] rfl ⟨⟩ ?_
    refine W.ret ?_
    exact Fin.ret rfl ⟨by rw [dirn, if_pos hb0], ⟨⟩⟩
  · try simp only [nb, inr_t, inr_f, isEmpty_t] at hb0
    refine W.skip ?_
    refine W.seq ?_
    refine W.reg X [] [] [2] [] rfl ⟨⟩ ?_
    refine W.ret ?_
    exact Fin.ret rfl ⟨by rw [dirn, if_neg (by omega)], ⟨⟩⟩
theorem c_impl_messageCell (c : Cli) (a : Int) (h0 : 0 ≤ a) (h1 : a < c.submitted.length) : Sound ty Try.prog 92 [.agg (dec_Cli c), .a (.lit (.int .i64 a))] [.a (.sl .u8 (mcell c a))] := by
  refine Sound.of X Try.call92 Try.func92 rfl rfl (by decide) Try.ntmps92 (by simp) ?_
  intro zb
  refine W.seq ?_
  refine W.reg X [] [] [1, 2] [] rfl ⟨⟩ ?_
  refine W.seq ?_
  refine W.draw X [] [(11, ⟨false, [.a (.lit (.int .i64 (dirn c)))]⟩), (12, ⟨false, [.a (.lit (.int .i64 (dkey c.key (dirn c))))]⟩), (20, ⟨true, [.a (.sl .u8 (sealC (dkey c.key (dirn c)) a (⟨1, (c.submitted.getD (a).toNat (dfl (.sl .u8)))⟩ : Plain))), .a (.lit (.bool (sealOK (dkey c.key (dirn c)) a (⟨1, (c.submitted.getD (a).toNat (dfl (.sl .u8)))⟩ : Plain))))]⟩)] [5] [] 18 MO (by kernel_rfl) rfl (by (repeat' (first | with_reducible exact AllP.nil | with_reducible refine AllP.mk ?_ ?_ | with_reducible apply And.intro)) <;> skip; (iterate 3 (all_goals try (first | exact (c_impl_direction c) | exact fun _ => (c_impl_direction c) | exact fun _ _ => (c_impl_direction c) | exact (c_impl_DirectionKey c.key (dirn c)) | exact fun _ => (c_impl_DirectionKey c.key (dirn c)) | exact fun _ _ => (c_impl_DirectionKey c.key (dirn c)) | exact (c_impl_SealCell (dkey c.key (dirn c)) a (⟨1, (c.submitted.getD (a).toNat (dfl (.sl .u8)))⟩ : Plain)) | exact fun _ => (c_impl_SealCell (dkey c.key (dirn c)) a (⟨1, (c.submitted.getD (a).toNat (dfl (.sl .u8)))⟩ : Plain)) | exact fun _ _ => (c_impl_SealCell (dkey c.key (dirn c)) a (⟨1, (c.submitted.getD (a).toNat (dfl (.sl .u8)))⟩ : Plain))))); all_goals (first | (intros; omega) | exact rfl | exact El_all _ (by decide) | exact ⟨rfl, El_all _ (by decide)⟩ | ((intro h1; first | (intro h2; first | (intro h3; refine And.intro ?_ ?_) | refine And.intro ?_ ?_) | refine And.intro ?_ ?_) <;> first | omega | ((try simp only [nb, inr_t, inr_f] at *); (try simp (disch := omega) only [i64w]); omega)) | ((try simp only [nb, inr_t, inr_f] at *); (simp (disch := omega) only [i64w]); omega) | (refine fun _ => ?_; dsimp only [hyps, imps]; omega) | (refine fun _ _ => ?_; dsimp only [hyps, imps]; omega) | exact (u8w _).1 | exact (u8w _).2 | exact (u8n _).1 | exact (u8n _).2 | (simp only [byt, maxLen, lens]; omega) | (intros; simp only [nb] at *; omega))) ?_
  refine W.seq ?_
  refine W.reg X [] [] [4] [] rfl ⟨⟩ ?_
  refine W.ret ?_
  exact Fin.ret rfl ⟨rfl, ⟨⟩⟩
theorem c_impl_ReadRow (d : DB) (i : Int) (hs0 : lsz List.length d.rows ≤ 1048576) : Sound ty Try.prog 88 [.agg (dec_DB d), .a (.lit (.int .i64 i))] [.a (.sl .u8 (rowAt d i)), .a (.lit (.bool (rowOK d i)))] := by
  refine Sound.of X Try.call88 Try.func88 rfl rfl (by decide) Try.ntmps88 (by simp) ?_
  intro zb
  have hll : d.rows.length ≤ 1048576 := lsz_len hs0
  refine W.seq ?_
  refine W.reg X [] [] [1, 2] [] rfl ⟨⟩ ?_
  refine W.seq ?_
  refine W.seq ?_
  refine W.reg X [] [(11, ⟨false, [.a (.lit (.bool (inr i 0 (IntKind.i64.wrap ((d.rows.length : Int) - 1)))))]⟩)] [1, 2, 12] [] rfl (by (repeat' (first | with_reducible exact AllP.nil | with_reducible refine AllP.mk ?_ ?_ | with_reducible apply And.intro)) <;> skip; (iterate 1 (all_goals try (first | exact (c_impl_InRange i 0 (IntKind.i64.wrap ((d.rows.length : Int) - 1))) | exact fun _ => (c_impl_InRange i 0 (IntKind.i64.wrap ((d.rows.length : Int) - 1))) | exact fun _ _ => (c_impl_InRange i 0 (IntKind.i64.wrap ((d.rows.length : Int) - 1)))))); all_goals (first | (intros; omega) | exact rfl | exact El_all _ (by decide) | exact ⟨rfl, El_all _ (by decide)⟩ | ((intro h1; first | (intro h2; first | (intro h3; refine And.intro ?_ ?_) | refine And.intro ?_ ?_) | refine And.intro ?_ ?_) <;> first | omega | ((try simp only [nb, inr_t, inr_f] at *); (try simp (disch := omega) only [i64w]); omega)) | ((try simp only [nb, inr_t, inr_f] at *); (simp (disch := omega) only [i64w]); omega) | (refine fun _ => ?_; dsimp only [hyps, imps]; omega) | (refine fun _ _ => ?_; dsimp only [hyps, imps]; omega) | exact (u8w _).1 | exact (u8w _).2 | exact (u8n _).1 | exact (u8n _).2 | (simp only [byt, maxLen, lens]; omega) | (intros; simp only [nb] at *; omega))) ?_
  refine W.cond rfl (fun hb0 => ?_) (fun hb0 => ?_)
  · rw [i64w (by omega)] at hb0
    have hk : rowOK d i = false := or_no1 hb0 rfl
    refine W.seq ?_
    refine W.reg X [] [] [4, 5] [] rfl ⟨⟩ ?_
    refine W.ret ?_
    exact Fin.ret rfl ⟨by rw [rowAt, if_neg (by rw [hk]; decide)], by rw [hk], ⟨⟩⟩
  · rw [i64w (by omega)] at hb0
    have hk : rowOK d i = true := or_yes hb0 rfl
    have hk2 := hk
    simp only [rowOK, inr_t] at hk2
    have hel := lsz_el hs0 i.toNat (by omega)
    refine W.skip ?_
    refine W.seq ?_
    refine W.reg X [] [(18, ⟨true, [.a (.sl .u8 _)]⟩)] [4, 5] [] rfl (by (repeat' (first | with_reducible exact AllP.nil | with_reducible refine AllP.mk ?_ ?_ | with_reducible apply And.intro)) <;> skip; (iterate 1 (all_goals try (first | exact (c_slices_Clone_byte_byte _ (by first | assumption | omega | (simp; done) | (simp; omega))) | exact fun _ => (c_slices_Clone_byte_byte _ (by first | assumption | omega | (simp; done) | (simp; omega))) | exact fun _ _ => (c_slices_Clone_byte_byte _ (by first | assumption | omega | (simp; done) | (simp; omega)))))); all_goals (first | (intros; omega) | exact rfl | exact El_all _ (by decide) | exact ⟨rfl, El_all _ (by decide)⟩ | ((intro h1; first | (intro h2; first | (intro h3; refine And.intro ?_ ?_) | refine And.intro ?_ ?_) | refine And.intro ?_ ?_) <;> first | omega | ((try simp only [nb, inr_t, inr_f] at *); (try simp (disch := omega) only [i64w]); omega)) | ((try simp only [nb, inr_t, inr_f] at *); (simp (disch := omega) only [i64w]); omega) | (refine fun _ => ?_; dsimp only [hyps, imps]; omega) | (refine fun _ _ => ?_; dsimp only [hyps, imps]; omega) | exact (u8w _).1 | exact (u8w _).2 | exact (u8n _).1 | exact (u8n _).2 | (simp only [byt, maxLen, lens]; omega) | (intros; simp only [nb] at *; omega))) ?_
    refine W.ret ?_
    exact Fin.ret rfl ⟨by rw [rowAt, if_pos hk], by rw [hk], ⟨⟩⟩
theorem c_spec_l29Direction (c : Cli) : Sound ty Try.prog 84 [.agg (dec_Cli c)] [.a (.lit (.int .i64 (dirn c)))] := by
  refine Sound.of X Try.call84 Try.func84 rfl rfl (by decide) Try.ntmps84 (by simp) ?_
  intro zb
  refine W.seq ?_
  refine W.reg X [] [] [1] [] rfl ⟨⟩ ?_
  refine W.seq ?_
  refine W.seq ?_
  refine W.reg X [] [] [7] [] rfl ⟨⟩ ?_
  refine W.cond rfl (fun hb0 => ?_) (fun hb0 => ?_)
  · try simp only [nb, inr_t, inr_f, isEmpty_t] at hb0
    refine W.seq ?_
    refine W.reg X [] [] [2] [] rfl ⟨⟩ ?_
    refine W.ret ?_
    exact Fin.ret rfl ⟨by rw [dirn, if_pos hb0], ⟨⟩⟩
  · try simp only [nb, inr_t, inr_f, isEmpty_t] at hb0
    refine W.skip ?_
    refine W.seq ?_
    refine W.reg X [] [] [2] [] rfl ⟨⟩ ?_
    refine W.ret ?_
    exact Fin.ret rfl ⟨by rw [dirn, if_neg (by omega)], ⟨⟩⟩
theorem c_spec_l29Cell (c : Cli) (h0 : 0 ≤ c.sent) (h1 : c.sent < c.submitted.length) : Sound ty Try.prog 87 [.agg (dec_Cli c)] [.a (.sl .u8 (mcell c c.sent))] := by
  refine Sound.of X Try.call87 Try.func87 rfl rfl (by decide) Try.ntmps87 (by simp) ?_
  intro zb
  refine W.seq ?_
  refine W.reg X [] [] [1] [] rfl ⟨⟩ ?_
  refine W.seq ?_
  refine W.draw X [] [(9, ⟨false, [.a (.lit (.int .i64 (dirn c)))]⟩), (10, ⟨false, [.a (.lit (.int .i64 (dkey c.key (dirn c))))]⟩), (20, ⟨true, [.a (.sl .u8 (sealC (dkey c.key (dirn c)) c.sent (⟨1, (c.submitted.getD (c.sent).toNat (dfl (.sl .u8)))⟩ : Plain))), .a (.lit (.bool (sealOK (dkey c.key (dirn c)) c.sent (⟨1, (c.submitted.getD (c.sent).toNat (dfl (.sl .u8)))⟩ : Plain))))]⟩)] [3] [] 20 MO (by kernel_rfl) rfl (by (repeat' (first | with_reducible exact AllP.nil | with_reducible refine AllP.mk ?_ ?_ | with_reducible apply And.intro)) <;> skip; (iterate 3 (all_goals try (first | exact (c_spec_l29Direction c) | exact fun _ => (c_spec_l29Direction c) | exact fun _ _ => (c_spec_l29Direction c) | exact (c_spec_DirectionKey c.key (dirn c)) | exact fun _ => (c_spec_DirectionKey c.key (dirn c)) | exact fun _ _ => (c_spec_DirectionKey c.key (dirn c)) | exact (c_spec_SealCell (dkey c.key (dirn c)) c.sent (⟨1, (c.submitted.getD (c.sent).toNat (dfl (.sl .u8)))⟩ : Plain)) | exact fun _ => (c_spec_SealCell (dkey c.key (dirn c)) c.sent (⟨1, (c.submitted.getD (c.sent).toNat (dfl (.sl .u8)))⟩ : Plain)) | exact fun _ _ => (c_spec_SealCell (dkey c.key (dirn c)) c.sent (⟨1, (c.submitted.getD (c.sent).toNat (dfl (.sl .u8)))⟩ : Plain))))); all_goals (first | (intros; omega) | exact rfl | exact El_all _ (by decide) | exact ⟨rfl, El_all _ (by decide)⟩ | ((intro h1; first | (intro h2; first | (intro h3; refine And.intro ?_ ?_) | refine And.intro ?_ ?_) | refine And.intro ?_ ?_) <;> first | omega | ((try simp only [nb, inr_t, inr_f] at *); (try simp (disch := omega) only [i64w]); omega)) | ((try simp only [nb, inr_t, inr_f] at *); (simp (disch := omega) only [i64w]); omega) | (refine fun _ => ?_; dsimp only [hyps, imps]; omega) | (refine fun _ _ => ?_; dsimp only [hyps, imps]; omega) | exact (u8w _).1 | exact (u8w _).2 | exact (u8n _).1 | exact (u8n _).2 | (simp only [byt, maxLen, lens]; omega) | (intros; simp only [nb] at *; omega))) ?_
  refine W.seq ?_
  refine W.reg X [] [] [2] [] rfl ⟨⟩ ?_
  refine W.ret ?_
  exact Fin.ret rfl ⟨rfl, ⟨⟩⟩
theorem c_spec_ReadRow (d : DB) (i : Int) (hs0 : lsz List.length d.rows ≤ 1048576) : Sound ty Try.prog 85 [.agg (dec_DB d), .a (.lit (.int .i64 i))] [.a (.sl .u8 (rowAt d i)), .a (.lit (.bool (rowOK d i)))] := by
  refine Sound.of X Try.call85 Try.func85 rfl rfl (by decide) Try.ntmps85 (by simp) ?_
  intro zb
  have hll : d.rows.length ≤ 1048576 := lsz_len hs0
  refine W.seq ?_
  refine W.reg X [] [] [1, 2] [] rfl ⟨⟩ ?_
  refine W.seq ?_
  refine W.seq ?_
  refine W.reg X [] [(11, ⟨false, [.a (.lit (.bool (inr i 0 (IntKind.i64.wrap ((d.rows.length : Int) - 1)))))]⟩)] [1, 2, 12] [] rfl (by (repeat' (first | with_reducible exact AllP.nil | with_reducible refine AllP.mk ?_ ?_ | with_reducible apply And.intro)) <;> skip; (iterate 1 (all_goals try (first | exact (c_spec_l1In i 0 (IntKind.i64.wrap ((d.rows.length : Int) - 1))) | exact fun _ => (c_spec_l1In i 0 (IntKind.i64.wrap ((d.rows.length : Int) - 1))) | exact fun _ _ => (c_spec_l1In i 0 (IntKind.i64.wrap ((d.rows.length : Int) - 1)))))); all_goals (first | (intros; omega) | exact rfl | exact El_all _ (by decide) | exact ⟨rfl, El_all _ (by decide)⟩ | ((intro h1; first | (intro h2; first | (intro h3; refine And.intro ?_ ?_) | refine And.intro ?_ ?_) | refine And.intro ?_ ?_) <;> first | omega | ((try simp only [nb, inr_t, inr_f] at *); (try simp (disch := omega) only [i64w]); omega)) | ((try simp only [nb, inr_t, inr_f] at *); (simp (disch := omega) only [i64w]); omega) | (refine fun _ => ?_; dsimp only [hyps, imps]; omega) | (refine fun _ _ => ?_; dsimp only [hyps, imps]; omega) | exact (u8w _).1 | exact (u8w _).2 | exact (u8n _).1 | exact (u8n _).2 | (simp only [byt, maxLen, lens]; omega) | (intros; simp only [nb] at *; omega))) ?_
  refine W.cond rfl (fun hb0 => ?_) (fun hb0 => ?_)
  · rw [i64w (by omega)] at hb0
    have hk : rowOK d i = false := or_no1 hb0 rfl
    refine W.seq ?_
    refine W.reg X [] [] [4, 5] [] rfl (by (repeat' (first | exact True.intro | apply And.intro)) <;> first | (intros; omega) | exact rfl | exact El_all _ (by decide) | exact ⟨rfl, El_all _ (by decide)⟩ | ((intro h1; first | (intro h2; first | (intro h3; refine And.intro ?_ ?_) | refine And.intro ?_ ?_) | refine And.intro ?_ ?_) <;> first | omega | ((try simp only [nb, inr_t, inr_f] at *); (try simp (disch := omega) only [i64w]); omega)) | ((try simp only [nb, inr_t, inr_f] at *); (simp (disch := omega) only [i64w]); omega) | (refine fun _ => ?_; dsimp only [hyps, imps]; omega) | (refine fun _ _ => ?_; dsimp only [hyps, imps]; omega) | exact (u8w _).1 | exact (u8w _).2 | exact (u8n _).1 | exact (u8n _).2 | (simp only [byt, maxLen, lens]; omega) | (intros; simp only [nb] at *; omega)) ?_
    refine W.ret ?_
    exact Fin.ret rfl ⟨by rw [rowAt, if_neg (by rw [hk]; decide)], by rw [hk], ⟨⟩⟩
  · rw [i64w (by omega)] at hb0
    have hk : rowOK d i = true := or_yes hb0 rfl
    have hk2 := hk
    simp only [rowOK, inr_t] at hk2
    have hel := lsz_el hs0 i.toNat (by omega)
    refine W.skip ?_
    refine W.seq ?_
    refine W.reg X [(20, 14)] [] [4, 5] [] rfl (by (repeat' (first | exact True.intro | apply And.intro)) <;> first | (intros; omega) | exact rfl | exact El_all _ (by decide) | exact ⟨rfl, El_all _ (by decide)⟩ | ((intro h1; first | (intro h2; first | (intro h3; refine And.intro ?_ ?_) | refine And.intro ?_ ?_) | refine And.intro ?_ ?_) <;> first | omega | ((try simp only [nb, inr_t, inr_f] at *); (try simp (disch := omega) only [i64w]); omega)) | ((try simp only [nb, inr_t, inr_f] at *); (simp (disch := omega) only [i64w]); omega) | (refine fun _ => ?_; dsimp only [hyps, imps]; omega) | (refine fun _ _ => ?_; dsimp only [hyps, imps]; omega) | exact (u8w _).1 | exact (u8w _).2 | exact (u8n _).1 | exact (u8n _).2 | (simp only [byt, maxLen, lens]; omega) | (intros; simp only [nb] at *; omega)) ?_
    refine W.ret ?_
    exact Fin.ret rfl ⟨by rw [rowAt, if_pos hk]; rfl, by rw [hk], ⟨⟩⟩
end Go.Proofs.Ytfiaikmlnemnfaa.G
namespace Go.Proofs.Ytfiaikmlnemnfaa.G
set_option linter.all false
open Go.RowKit L D
set_option maxRecDepth 100000
theorem c_impl_IsRoomy (x : Wld) (hd : x.devices.length ≤ 1048576) : Sound ty Try.prog 46 [.agg (dec_Wld x)] [.a (.lit (.bool (roomy x)))] := by
  refine Sound.of X Try.call46 Try.func46 rfl rfl (by decide) Try.ntmps46 (by simp) ?_
  intro zb
  have hw3 : IntKind.i64.wrap (3 * (x.devices.length : Int)) = 3 * (x.devices.length : Int) := i64w (by omega)
  refine W.seq ?_
  refine W.reg X [] [] [1] [] rfl ⟨⟩ ?_
  refine W.seq ?_
  refine W.reg X [] [(4, ⟨false, [.a (.lit (.bool (okW x)))]⟩)] [2] [] rfl (by (repeat' (first | with_reducible exact AllP.nil | with_reducible refine AllP.mk ?_ ?_ | with_reducible apply And.intro)) <;> skip; (iterate 1 (all_goals try (first | exact (c_impl_IsValidWorld x) | exact fun _ => (c_impl_IsValidWorld x) | exact fun _ _ => (c_impl_IsValidWorld x)))); all_goals (first | (intros; omega) | exact rfl | exact El_all _ (by decide) | exact ⟨rfl, El_all _ (by decide)⟩ | ((intro h1; first | (intro h2; first | (intro h3; refine And.intro ?_ ?_) | refine And.intro ?_ ?_) | refine And.intro ?_ ?_) <;> first | omega | ((try simp only [nb, inr_t, inr_f] at *); (try simp (disch := omega) only [i64w]); omega)) | ((try simp only [nb, inr_t, inr_f] at *); (simp (disch := omega) only [i64w]); omega) | (refine fun _ => ?_; dsimp only [hyps, imps]; omega) | (refine fun _ _ => ?_; dsimp only [hyps, imps]; omega) | exact (u8w _).1 | exact (u8w _).2 | exact (u8n _).1 | exact (u8n _).2 | (simp only [byt, maxLen, lens]; omega) | (intros; simp only [nb] at *; omega))) ?_
  refine W.ret ?_
  exact Fin.ret rfl ⟨(congrArg Value.bool (by simp only [roomy, hw3, ite_tt, ite_ff, gt_iff_lt, ge_iff_le, not_dlt, not_dle, bne_not, deq, decide_not, ne_eq, Bool.not_and, Bool.not_or, Bool.not_not, Bool.and_true, Bool.true_and, Bool.or_false, Bool.false_or, Int.toNat_natCast] <;> first | rfl | ac_rfl)), ⟨⟩⟩
theorem c_impl_AllInboxes (x : Wld) (hsz : size_Wld x ≤ 1048576) : Sound ty Try.prog 41 [.agg (dec_Wld x)] [.a (.sl (.sl .u8) (allIn x.devices))] := by
  refine Sound.of X Try.call41 Try.func41 rfl rfl (by decide) Try.ntmps41 (by simp) ?_
  intro zb
  have hd : x.devices.length ≤ 1048576 := dev_le hsz
  refine W.seq ?_
  refine W.reg X [] [] [1] [] rfl ⟨⟩ ?_
  refine W.seq ?_
  refine W.reg X [] [] [1, 3] [] rfl (by (repeat' (first | exact True.intro | apply And.intro)) <;> first | (intros; omega) | exact rfl | exact El_all _ (by decide) | exact ⟨rfl, El_all _ (by decide)⟩ | ((intro h1; first | (intro h2; first | (intro h3; refine And.intro ?_ ?_) | refine And.intro ?_ ?_) | refine And.intro ?_ ?_) <;> first | omega | ((try simp only [nb, inr_t, inr_f] at *); (try simp (disch := omega) only [i64w]); omega)) | ((try simp only [nb, inr_t, inr_f] at *); (simp (disch := omega) only [i64w]); omega) | (refine fun _ => ?_; dsimp only [hyps, imps]; omega) | (refine fun _ _ => ?_; dsimp only [hyps, imps]; omega) | exact (u8w _).1 | exact (u8w _).2 | exact (u8n _).1 | exact (u8n _).2 | (simp only [byt, maxLen, lens]; omega) | (intros; simp only [nb] at *; omega)) ?_
  refine W.seq ?_
  refine W.seq ?_
  refine W.reg X [] [] [3, 8, 9, 10] [] rfl ⟨⟩ ?_
  refine W.block ?_
  refine W.loopO (fun k => k ≤ x.devices.length) (fun k : Nat => [(10, .one (.a (.lit (.int .i64 k))))]) (fun k => [(6, .arr (.sl .u8) (allIn (x.devices.take k)))]) (fun k => x.devices.length - k) 0 (fun k => rfl) (Nat.zero_le _) rfl ?_
  intro k hk
  have hle := allIn_take hsz k
  refine W.seq ?_
  refine W.reg X [] [] [3, 8, 9, 10, 11] [] rfl ⟨⟩ ?_
  refine W.seq ?_
  refine W.cond rfl (fun hb0 => ?_) (fun hb0 => ?_)
  · try simp only [nb, inr_t, inr_f, isEmpty_t] at hb0
    have hs := allIn_step x.devices k hb0
    have hin := (live_le (lsz_cli hsz hb0)).2.1
    have hin2 := inbox_le hsz hb0
    refine W.skip ?_
    refine W.seq ?_
    refine W.block ?_
    refine W.seq ?_
    refine W.reg X [] [] [3, 5, 8, 9, 10] [] rfl (by (repeat' (first | exact True.intro | apply And.intro)) <;> first | (intros; omega) | exact rfl | exact El_all _ (by decide) | exact ⟨rfl, El_all _ (by decide)⟩ | ((intro h1; first | (intro h2; first | (intro h3; refine And.intro ?_ ?_) | refine And.intro ?_ ?_) | refine And.intro ?_ ?_) <;> first | omega | ((try simp only [nb, inr_t, inr_f] at *); (try simp (disch := omega) only [i64w]); omega)) | ((try simp only [nb, inr_t, inr_f] at *); (simp (disch := omega) only [i64w]); omega) | (refine fun _ => ?_; dsimp only [hyps, imps]; omega) | (refine fun _ _ => ?_; dsimp only [hyps, imps]; omega) | exact (u8w _).1 | exact (u8w _).2 | exact (u8n _).1 | exact (u8n _).2 | (simp only [byt, maxLen, lens]; omega) | (intros; simp only [nb] at *; omega)) ?_
    refine W.reg X [(19, 6)] [(18, ⟨true, [.a (.sl (.sl .u8) _)]⟩)] [3, 8, 9, 10] [] rfl (by (repeat' (first | with_reducible exact AllP.nil | with_reducible refine AllP.mk ?_ ?_ | with_reducible apply And.intro)) <;> skip; (iterate 1 (all_goals try (first | exact (c_impl_copyLists _ (by first | assumption | omega | (simp; done) | (simp; omega))) | exact fun _ => (c_impl_copyLists _ (by first | assumption | omega | (simp; done) | (simp; omega))) | exact fun _ _ => (c_impl_copyLists _ (by first | assumption | omega | (simp; done) | (simp; omega)))))); all_goals (first | (intros; omega) | exact rfl | exact El_all _ (by decide) | exact ⟨rfl, El_all _ (by decide)⟩ | ((intro h1; first | (intro h2; first | (intro h3; refine And.intro ?_ ?_) | refine And.intro ?_ ?_) | refine And.intro ?_ ?_) <;> first | omega | ((try simp only [nb, inr_t, inr_f] at *); (try simp (disch := omega) only [i64w]); omega)) | ((try simp only [nb, inr_t, inr_f] at *); (simp (disch := omega) only [i64w]); omega) | (refine fun _ => ?_; dsimp only [hyps, imps]; omega) | (refine fun _ _ => ?_; dsimp only [hyps, imps]; omega) | exact (u8w _).1 | exact (u8w _).2 | exact (u8n _).1 | exact (u8n _).2 | (simp only [byt, maxLen, lens]; omega) | (intros; simp only [nb] at *; omega))) ?_
    refine W.reg X [] [] [3, 8, 9, 10] [] rfl ⟨⟩ ?_
    refine ⟨k + 1, by omega, by omega, ?_⟩
    rw [wadd _ k rfl (by omega), hs]
    try rfl
  · try simp only [nb, inr_t, inr_f, isEmpty_t] at hb0
    refine W.exit ?_
    refine W.seq ?_
    refine W.reg X [] [] [2] [] rfl ⟨⟩ ?_
    refine W.ret ?_
    exact Fin.ret rfl ⟨by rw [List.take_of_length_le hb0], ⟨⟩⟩
theorem c_spec_IsRoomy (x : Wld) (hd : x.devices.length ≤ 1048576) : Sound ty Try.prog 45 [.agg (dec_Wld x)] [.a (.lit (.bool (roomy x)))] := by
  refine Sound.of X Try.call45 Try.func45 rfl rfl (by decide) Try.ntmps45 (by simp) ?_
  intro zb
  have hw3 : IntKind.i64.wrap (3 * (x.devices.length : Int)) = 3 * (x.devices.length : Int) := i64w (by omega)
  refine W.seq ?_
  refine W.reg X [] [] [1] [] rfl ⟨⟩ ?_
  refine W.seq ?_
  refine W.reg X [] [(4, ⟨false, [.a (.lit (.bool (okW x)))]⟩)] [2] [] rfl (by (repeat' (first | with_reducible exact AllP.nil | with_reducible refine AllP.mk ?_ ?_ | with_reducible apply And.intro)) <;> skip; (iterate 1 (all_goals try (first | exact (c_spec_IsValidWorld x) | exact fun _ => (c_spec_IsValidWorld x) | exact fun _ _ => (c_spec_IsValidWorld x)))); all_goals (first | (intros; omega) | exact rfl | exact El_all _ (by decide) | exact ⟨rfl, El_all _ (by decide)⟩ | ((intro h1; first | (intro h2; first | (intro h3; refine And.intro ?_ ?_) | refine And.intro ?_ ?_) | refine And.intro ?_ ?_) <;> first | omega | ((try simp only [nb, inr_t, inr_f] at *); (try simp (disch := omega) only [i64w]); omega)) | ((try simp only [nb, inr_t, inr_f] at *); (simp (disch := omega) only [i64w]); omega) | (refine fun _ => ?_; dsimp only [hyps, imps]; omega) | (refine fun _ _ => ?_; dsimp only [hyps, imps]; omega) | exact (u8w _).1 | exact (u8w _).2 | exact (u8n _).1 | exact (u8n _).2 | (simp only [byt, maxLen, lens]; omega) | (intros; simp only [nb] at *; omega))) ?_
  refine W.ret ?_
  exact Fin.ret rfl ⟨(congrArg Value.bool (by simp only [roomy, hw3, ite_tt, ite_ff, gt_iff_lt, ge_iff_le, not_dlt, not_dle, bne_not, deq, decide_not, ne_eq, Bool.not_and, Bool.not_or, Bool.not_not, Bool.and_true, Bool.true_and, Bool.or_false, Bool.false_or, Int.toNat_natCast] <;> first | rfl | ac_rfl)), ⟨⟩⟩
theorem c_spec_AllInboxes (x : Wld) (hsz : size_Wld x ≤ 1048576) : Sound ty Try.prog 40 [.agg (dec_Wld x)] [.a (.sl (.sl .u8) (allIn x.devices))] := by
  refine Sound.of X Try.call40 Try.func40 rfl rfl (by decide) Try.ntmps40 (by simp) ?_
  intro zb
  have hd : x.devices.length ≤ 1048576 := dev_le hsz
  refine W.seq ?_
  refine W.reg X [] [] [1] [] rfl ⟨⟩ ?_
  refine W.seq ?_
  refine W.reg X [] [] [1, 3] [] rfl (by (repeat' (first | exact True.intro | apply And.intro)) <;> first | (intros; omega) | exact rfl | exact El_all _ (by decide) | exact ⟨rfl, El_all _ (by decide)⟩ | ((intro h1; first | (intro h2; first | (intro h3; refine And.intro ?_ ?_) | refine And.intro ?_ ?_) | refine And.intro ?_ ?_) <;> first | omega | ((try simp only [nb, inr_t, inr_f] at *); (try simp (disch := omega) only [i64w]); omega)) | ((try simp only [nb, inr_t, inr_f] at *); (simp (disch := omega) only [i64w]); omega) | (refine fun _ => ?_; dsimp only [hyps, imps]; omega) | (refine fun _ _ => ?_; dsimp only [hyps, imps]; omega) | exact (u8w _).1 | exact (u8w _).2 | exact (u8n _).1 | exact (u8n _).2 | (simp only [byt, maxLen, lens]; omega) | (intros; simp only [nb] at *; omega)) ?_
  refine W.seq ?_
  refine W.seq ?_
  refine W.reg X [] [] [1, 3, 4] [] rfl ⟨⟩ ?_
  refine W.block ?_
  refine W.loopO (fun k => k ≤ x.devices.length) (fun k : Nat => [(4, .one (.a (.lit (.int .i64 k))))]) (fun k => [(5, .arr (.sl .u8) (allIn (x.devices.take k)))]) (fun k => x.devices.length - k) 0 (fun k => rfl) (Nat.zero_le _) rfl ?_
  intro k hk
  have hle := allIn_take hsz k
  refine W.seq ?_
  refine W.seq ?_
  refine W.reg X [] [] [1, 3, 4, 10] [] rfl ⟨⟩ ?_
  refine W.cond rfl (fun hb0 => ?_) (fun hb0 => ?_)
  · try simp only [nb, inr_t, inr_f, isEmpty_t] at hb0
    have hs := allIn_step x.devices k hb0
    have hin := (live_le (lsz_cli hsz hb0)).2.1
    have hin2 := inbox_le hsz hb0
    refine W.skip ?_
    refine W.seq ?_
    refine W.block ?_
    refine W.reg X [(22, 5)] [(21, ⟨true, [.a (.sl (.sl .u8) _)]⟩)] [1, 3, 4] [] rfl (by (repeat' (first | with_reducible exact AllP.nil | with_reducible refine AllP.mk ?_ ?_ | with_reducible apply And.intro)) <;> skip; (iterate 1 (all_goals try (first | exact (c_spec_l4Copy _ (by first | assumption | omega | (simp; done) | (simp; omega))) | exact fun _ => (c_spec_l4Copy _ (by first | assumption | omega | (simp; done) | (simp; omega))) | exact fun _ _ => (c_spec_l4Copy _ (by first | assumption | omega | (simp; done) | (simp; omega)))))); all_goals (first | (intros; omega) | exact rfl | exact El_all _ (by decide) | exact ⟨rfl, El_all _ (by decide)⟩ | ((intro h1; first | (intro h2; first | (intro h3; refine And.intro ?_ ?_) | refine And.intro ?_ ?_) | refine And.intro ?_ ?_) <;> first | omega | ((try simp only [nb, inr_t, inr_f] at *); (try simp (disch := omega) only [i64w]); omega)) | ((try simp only [nb, inr_t, inr_f] at *); (simp (disch := omega) only [i64w]); omega) | (refine fun _ => ?_; dsimp only [hyps, imps]; omega) | (refine fun _ _ => ?_; dsimp only [hyps, imps]; omega) | exact (u8w _).1 | exact (u8w _).2 | exact (u8n _).1 | exact (u8n _).2 | (simp only [byt, maxLen, lens]; omega) | (intros; simp only [nb] at *; omega))) ?_
    refine W.reg X [] [] [1, 3, 4] [] rfl ⟨⟩ ?_
    refine ⟨k + 1, by omega, by omega, ?_⟩
    rw [wadd _ k rfl (by omega), hs]
    try rfl
  · try simp only [nb, inr_t, inr_f, isEmpty_t] at hb0
    refine W.exit ?_
    refine W.seq ?_
    refine W.reg X [] [] [2] [] rfl ⟨⟩ ?_
    refine W.ret ?_
    exact Fin.ret rfl ⟨by rw [List.take_of_length_le hb0], ⟨⟩⟩
end Go.Proofs.Ytfiaikmlnemnfaa.G
namespace Go.Proofs.Ytfiaikmlnemnfaa.G
set_option linter.all false
open Go.RowKit L D
set_option maxRecDepth 100000
theorem c_FnExactAllInboxes (x0 : Wld) (h_x0 : (wf_Wld) x0) : Sound ty Try.prog 12 [.agg (dec_Wld x0)] [.a (.lit (.bool true))] := by
  refine Sound.of X Try.call12 Try.func12 rfl rfl (by decide) Try.ntmps12 (by simp) ?_
  intro zb
  refine W.seq ?_
  refine W.reg X [] [] [1] [] rfl ⟨⟩ ?_
  refine W.seq ?_
  refine W.reg X [] [] [1, 3] [] rfl ⟨⟩ ?_
  refine W.seq ?_
  refine W.reg X [] [(13, ⟨false, [.a (.lit (.int .i64 (szr (1048576) (size_Wld x0))))]⟩)] [1, 3] [] rfl ⟨c_szWorld x0 (1048576) (by omega) (by omega), ⟨⟩⟩ ?_
  refine W.seq ?_
  refine W.seq ?_
  refine W.reg X [] [] [1, 15] [] rfl ⟨⟩ ?_
  refine W.cond rfl (fun hb0 => ?_) (fun hb0 => ?_)
  · try simp only [nb] at hb0
    refine W.seq ?_
    refine W.reg X [] [] [2] [] rfl ⟨⟩ ?_
    refine W.ret ?_
    exact Fin.ret rfl ⟨rfl, ⟨⟩⟩
  · try simp only [nb] at hb0
    obtain ⟨e0, e0'⟩ := szr_pos hb0
    rw [e0]
    have hsz : size_Wld x0 ≤ 1048576 := by omega
    have hmx := mnv_le_Wld x0
    have hdev := dev_le hsz
    have hsrv := srv_le hsz
    have hr : mnl (mnl (fun _ => 1)) (allIn x0.devices) ≤ 32 * lsz List.length (allIn x0.devices) := mnl_lsz (fun e => by have := mnl_len e; omega) _
    have hr2 := allIn_size hsz
    refine W.skip ?_
    refine W.seq ?_
    refine W.reg X [(17, 225), (18, 250)] [(17, ⟨true, [.agg (dec_Wld x0)]⟩), (18, ⟨true, [.a (.sl (.sl .u8) (allIn x0.devices))]⟩)] [1, 4] [] rfl ⟨c_spec_AllInboxes x0 hsz, c_toWorld x0 (by omega), ⟨⟩⟩ ?_
    refine W.seq ?_
    refine W.reg X [(20, 275)] [(20, ⟨true, [.agg (dec_Wld x0)]⟩)] [1, 4, 5] [] rfl ⟨c_toWorld x0 (by omega), ⟨⟩⟩ ?_
    refine W.seq ?_
    refine W.reg X [(22, 300)] [(22, ⟨true, [.a (.sl (.sl .u8) (allIn x0.devices))]⟩)] [1, 4, 5, 6] [] rfl ⟨c_impl_AllInboxes x0 hsz, ⟨⟩⟩ ?_
    refine W.seq ?_
    refine W.seq ?_
    refine W.reg X [] [(25, ⟨false, [.a (.lit (.bool true))]⟩)] [1, 4, 5, 6, 26] [] rfl ⟨c_eqByteSS (allIn x0.devices), ⟨⟩⟩ ?_
    refine W.cond rfl (fun hb1 => ?_) (fun hb1 => ?_)
    · exact absurd hb1 (by first | (simp; done) | (simp; omega))
    · clear hb1
      refine W.skip ?_
      refine W.seq ?_
      refine W.seq ?_
      refine W.draw X [(29, 325)] [(29, ⟨true, [.agg (dec_Wld x0)]⟩), (30, ⟨false, [.a (.lit (.bool true))]⟩)] [1, 4, 5, 6, 31] [] 5 MO (by kernel_rfl) rfl ⟨c_eqWorld x0, c_toWorld x0 (by omega), ⟨⟩⟩ ?_
      refine W.cond rfl (fun hb2 => ?_) (fun hb2 => ?_)
      · exact absurd hb2 (by first | (simp; done) | (simp; omega))
      · clear hb2
        refine W.skip ?_
        refine W.seq ?_
        refine W.reg X [] [] [1, 4, 5, 6, 7] [] rfl ⟨⟩ ?_
        refine W.seq ?_
        refine W.reg X [] [(100034, ⟨false, [.a (.lit (.int .i64 (1 + (mnv_Wld x0 : Nat)))), .agg (dec_Wld (mkv_Wld (1) x0)), .a (.lit (.int .i64 (1)))]⟩)] [1, 4, 6, 7] [] rfl ⟨c_markWorld x0 (1) (by omega) (by omega), ⟨⟩⟩ ?_
        refine W.seq ?_
        refine W.seq ?_
        refine W.reg X [] [(40, ⟨false, [.a (.lit (.bool true))]⟩)] [1, 4, 6, 42] [] rfl ⟨fun _ => c_eqByteSS (allIn x0.devices), ⟨⟩⟩ ?_
        refine W.cond rfl (fun hb3 => ?_) (fun hb3 => ?_)
        · exact absurd hb3 (by first | (simp; done) | (simp; omega))
        · clear hb3
          refine W.skip ?_
          refine W.seq ?_
          refine W.reg X [] [] [1, 4, 6, 8] [] rfl ⟨⟩ ?_
          refine W.seq ?_
          refine W.reg X [] [(100045, ⟨false, [.a (.lit (.int .i64 (1 + ((mnl (mnl (fun _ => 1))) (allIn x0.devices) : Nat)))), .a (.sl (.sl .u8) ((mkl (mkl mku8 (fun _ => 1)) (mnl (fun _ => 1))) (1) (allIn x0.devices))), .a (.lit (.int .i64 (1)))]⟩)] [1, 4, 6, 8] [] rfl ⟨c_markByteSS (allIn x0.devices) (1) (by omega) (by omega), ⟨⟩⟩ ?_
          refine W.seq ?_
          refine W.reg X [] [] [1, 4, 6, 8, 9] [] rfl ⟨⟩ ?_
          refine W.seq ?_
          refine W.reg X [] [(48, ⟨false, [.a (.lit (.int .i64 (1 + ((mnl (mnl (fun _ => 1))) (allIn x0.devices) : Nat))))]⟩)] [1, 4, 6, 8, 9] [] rfl ⟨c_heldByteSS (allIn x0.devices) (1) (by omega) (by omega), ⟨⟩⟩ ?_
          refine W.seq ?_
          refine W.seq ?_
          refine W.reg X [] [] [1, 4, 6, 8, 9, 50] [] rfl ⟨⟩ ?_
          refine W.cond rfl (fun hb4 => ?_) (fun hb4 => ?_)
          · exact absurd hb4 (by first | (simp; done) | (simp; omega))
          · clear hb4
            refine W.skip ?_
            refine W.seq ?_
            refine W.seq ?_
            refine W.reg X [] [] [1, 4, 6, 8, 53] [] rfl ⟨⟩ ?_
            refine W.cond rfl (fun hb5 => ?_) (fun hb5 => ?_)
            · exact absurd hb5 (by first | (simp; done) | (simp; omega))
            · clear hb5
              refine W.skip ?_
              refine W.seq ?_
              refine W.reg X [(55, 350), (56, 375)] [(55, ⟨true, [.agg (dec_Wld x0)]⟩), (56, ⟨true, [.a (.sl (.sl .u8) (allIn x0.devices))]⟩)] [4, 6, 8, 10] [] rfl ⟨c_impl_AllInboxes x0 hsz, c_toWorld x0 (by omega), ⟨⟩⟩ ?_
              refine W.seq ?_
              refine W.seq ?_
              refine W.reg X [] [(59, ⟨false, [.a (.lit (.bool true))]⟩)] [6, 8, 60] [] rfl ⟨c_eqByteSS (allIn x0.devices), ⟨⟩⟩ ?_
              refine W.cond rfl (fun hb6 => ?_) (fun hb6 => ?_)
              · exact absurd hb6 (by first | (simp; done) | (simp; omega))
              · clear hb6
                refine W.skip ?_
                refine W.seq ?_
                refine W.reg X [] [] [6, 8, 9] [] rfl ⟨⟩ ?_
                refine W.seq ?_
                refine W.reg X [] [(63, ⟨false, [.a (.lit (.int .i64 (1 + ((mnl (mnl (fun _ => 1))) (allIn x0.devices) : Nat))))]⟩)] [8, 9] [] rfl ⟨c_heldByteSS (allIn x0.devices) (1) (by omega) (by omega), ⟨⟩⟩ ?_
                refine W.seq ?_
                refine W.seq ?_
                refine W.reg X [] [] [8, 9, 65] [] rfl ⟨⟩ ?_
                refine W.cond rfl (fun hb7 => ?_) (fun hb7 => ?_)
                · exact absurd hb7 (by first | (simp; done) | (simp; omega))
                · clear hb7
                  refine W.skip ?_
                  refine W.seq ?_
                  refine W.seq ?_
                  refine W.reg X [] [] [68] [] rfl ⟨⟩ ?_
                  refine W.cond rfl (fun hb8 => ?_) (fun hb8 => ?_)
                  · exact absurd hb8 (by first | (simp; done) | (simp; omega))
                  · clear hb8
                    refine W.skip ?_
                    refine W.seq ?_
                    refine W.reg X [] [] [2] [] rfl ⟨⟩ ?_
                    refine W.ret ?_
                    exact Fin.ret rfl ⟨rfl, ⟨⟩⟩
end Go.Proofs.Ytfiaikmlnemnfaa.G
