/-
  Integers, hashes, streams of bytes.
-/
import Derived.Test.YtfiaikmlnemnfaaZAllInboxesM8
import Derived.ProofKit
import Derived.Lib.AppendZeros
import Derived.Test.YtfiaikmlnemnfaaZAllInboxesM7
namespace Go.Proofs.Ytfiaikmlnemnfaa.G
set_option linter.all false
open Go.RowKit L D
set_option maxRecDepth 100000
theorem grow_ret {w w' : World} {t : Tag} {g n : Nat} {c : Array Value} (hg : g = w.heap.size) (hb : Below w.heap.size w w') (hc : w'.heap[g]? = some (.cells c (ty t) (0, 0))) (hs : c.size = n * kk t) (hn : n ≤ maxLen) :
    Ret ty w [.a (.sl t [])] (.returned (.slice (some ⟨g, 0, none⟩) 0 n)) w' := by
  have hown : Own w.heap.size w' (g :: ([] : List (List Nat)).flatten) := ⟨by simp, fun b hbm => by simp at hbm; omega, fun b hbm => by simp at hbm; subst hbm; exact ⟨_, _, hc⟩⟩
  have hp : Part (kk t) (rd t) w.heap.size (ty t) w' g n ([] : List (T t)) [] := ⟨⟨c, hc, hs⟩, ⟨rfl, by simp⟩, hown, hn⟩
  have hB := Part.bld (fine t) hp (Nat.zero_le _)
  exact ⟨_, _, rfl, hb, hown, _, [], hB, rfl, by simp⟩
theorem nil_ret {w : World} {t : Tag} : Ret ty w [.a (.sl t [])] (.returned nilv) w := by
  refine ⟨_, [], rfl, Below.refl _ _, Own.nil _ _, [], [], ⟨[], [], ?_, rfl, by simp, rfl, Own.nil _ _⟩, rfl, rfl⟩
  exact ⟨by simp, Or.inl ⟨rfl, rfl⟩⟩
theorem Grow_int (w : World) (n : Nat) (h1 : n ≤ 1099511627776) : Calls Try.prog 179 #[nilv, .int .i64 n] w (Ret ty w [.a (.sl .int [])]) := by
  have hEl : El Try.prog ty .int := El_all _ (by decide)
  cases hq : Try.prog.info? (ty .int) with
  | none => simp [El, hq] at hEl
  | some inf =>
    simp [El, hq] at hEl
    obtain ⟨z1, z2, z3⟩ := hEl
    by_cases h0 : n = 0
    · subst h0
      go_enter Try.func179, Try.ntmps179
      go_wp2
      go_ret
      exact nil_ret
    · have hsz : inf.size = 1 := z2
      have hby : inf.bytes ≤ 8 := by rw [z3]; decide
      have hmul : n * inf.bytes ≤ 8796093022208 := Nat.le_trans (Nat.mul_le_mul (show n ≤ 1099511627776 from h1) hby) (by decide)
      have hrun := Lib.run_append_nil_zeros (P := Try.prog) w 27 3 27 (ty .int) inf (zval .int) .i64 .i64 (X.kind 27).1 (X.kind 3) hq z1 n (by omega) (by omega) (by omega) (by omega)
      have hge := grownCap_ge w n 0 (ty .int)
      have hmx := grownCap_le_maxLen w n 0 (ty .int) (by unfold maxLen; omega)
      generalize grownCap w n 0 (ty .int) = g at hrun hge hmx
      go_enter Try.func179, Try.ntmps179
      go_wp2_with (at_builtin; refine Lib.wpList_append_run _ rfl _ _ _ _ rfl _ _ rfl rfl _ _ hrun ?_)
      go_ret
      refine grow_ret (t := .int) rfl ((Below.refl _ _).drew.alloc (Nat.le_refl _) _) (alloc_top rfl) ?_ hmx
      rw [Array.size_append, size_zeroCells, size_zeroCells, ← Nat.add_mul, show n + (g - n) = g by omega]
      rfl
theorem c_slices_Grow_int_int (n : Nat) (h1 : n ≤ 1099511627776) : Sound ty Try.prog 179 [.a (.lit nilv), .a (.lit (.int .i64 n))] [.a (.sl .int [])] := by
  refine ⟨fun args w => Try.call179 args w, fun w us ha => ?_⟩
  match us, ha with
  | [u1, u2], ⟨⟨_, e1⟩, ⟨_, e2⟩, _⟩ =>
    obtain ⟨e1, _⟩ := e1
    obtain ⟨e2, _⟩ := e2
    rw [e1, e2]
    exact Grow_int w n h1

end Go.Proofs.Ytfiaikmlnemnfaa.G
namespace Go.Proofs.Ytfiaikmlnemnfaa.G
set_option linter.all false
open Go.RowKit L D
set_option maxRecDepth 100000
theorem c_impl_InRange (x lo hi : Int) : Sound ty Try.prog 103 [.a (.lit (.int .i64 x)), .a (.lit (.int .i64 lo)), .a (.lit (.int .i64 hi))] [.a (.lit (.bool (inr x lo hi)))] := by
  refine Sound.of X Try.call103 Try.func103 rfl rfl (by decide) Try.ntmps103 (by simp) ?_
  intro zb
  refine W.seq ?_
  refine W.reg X [] [] [0, 1, 2] [] rfl ⟨⟩ ?_
  refine W.seq ?_
  refine W.reg X [] [] [6] [] rfl ⟨⟩ ?_
  refine W.ret ?_
  exact Fin.ret rfl ⟨rfl, ⟨⟩⟩
theorem c_spec_l1In (x lo hi : Int) : Sound ty Try.prog 70 [.a (.lit (.int .i64 x)), .a (.lit (.int .i64 lo)), .a (.lit (.int .i64 hi))] [.a (.lit (.bool (inr x lo hi)))] := by
  refine Sound.of X Try.call70 Try.func70 rfl rfl (by decide) Try.ntmps70 (by simp) ?_
  intro zb
  refine W.seq ?_
  refine W.reg X [] [] [0, 1, 2] [] rfl ⟨⟩ ?_
  refine W.seq ?_
  refine W.reg X [] [] [6] [] rfl ⟨⟩ ?_
  refine W.ret ?_
  exact Fin.ret rfl ⟨rfl, ⟨⟩⟩
theorem c_impl_Mod (p q : Int) (h1 : 1 ≤ q) (h2 : q ≤ 1000000000000) : Sound ty Try.prog 178 [.a (.lit (.int .i64 p)), .a (.lit (.int .i64 q))] [.a (.lit (.int .i64 (p % q)))] := by
  refine Sound.of X Try.call178 Try.func178 rfl rfl (by decide) Try.ntmps178 (by simp) ?_
  intro zb
  refine W.seq ?_
  refine W.reg X [] [] [0, 1] [] rfl ⟨⟩ ?_
  refine W.seq ?_
  refine W.seq ?_
  refine W.reg X [] [(6, ⟨false, [.a (.lit (.bool _))]⟩)] [0, 1, 7] [] rfl (by (repeat' (first | with_reducible exact AllP.nil | with_reducible refine AllP.mk ?_ ?_ | with_reducible apply And.intro)) <;> skip; (iterate 1 (all_goals try (first | exact (c_impl_InRange _ _ _) | exact fun _ => (c_impl_InRange _ _ _) | exact fun _ _ => (c_impl_InRange _ _ _)))); all_goals (first | (intros; omega) | exact rfl | exact El_all _ (by decide) | exact ⟨rfl, El_all _ (by decide)⟩ | ((intro h1; first | (intro h2; first | (intro h3; refine And.intro ?_ ?_) | refine And.intro ?_ ?_) | refine And.intro ?_ ?_) <;> first | omega | ((try simp only [nb, inr_t, inr_f] at *); (try simp (disch := omega) only [i64w]); omega)) | ((try simp only [nb, inr_t, inr_f] at *); (simp (disch := omega) only [i64w]); omega) | (refine fun _ => ?_; dsimp only [hyps, imps]; omega) | (refine fun _ _ => ?_; dsimp only [hyps, imps]; omega) | exact (u8w _).1 | exact (u8w _).2 | exact (u8n _).1 | exact (u8n _).2 | (simp only [byt, maxLen, lens]; omega) | (intros; simp only [nb] at *; omega))) ?_
  refine W.cond rfl (fun hb0 => ?_) (fun hb0 => ?_)
  · try simp only [nb, inr_t, inr_f, isEmpty_t] at hb0
    omega
  · try simp only [nb, inr_t, inr_f, isEmpty_t] at hb0
    refine W.skip ?_
    refine W.seq ?_
    refine W.reg X [] [] [4] [] rfl (by (repeat' (first | exact True.intro | apply And.intro)) <;> first | (intros; omega) | exact rfl | exact El_all _ (by decide) | exact ⟨rfl, El_all _ (by decide)⟩ | ((intro h1; first | (intro h2; first | (intro h3; refine And.intro ?_ ?_) | refine And.intro ?_ ?_) | refine And.intro ?_ ?_) <;> first | omega | ((try simp only [nb, inr_t, inr_f] at *); (try simp (disch := omega) only [i64w]); omega)) | ((try simp only [nb, inr_t, inr_f] at *); (simp (disch := omega) only [i64w]); omega) | (refine fun _ => ?_; dsimp only [hyps, imps]; omega) | (refine fun _ _ => ?_; dsimp only [hyps, imps]; omega) | exact (u8w _).1 | exact (u8w _).2 | exact (u8n _).1 | exact (u8n _).2 | (simp only [byt, maxLen, lens]; omega) | (intros; simp only [nb] at *; omega)) ?_
    refine W.ret ?_
    exact Fin.ret rfl ⟨by rw [md_eq p q h1 h2], ⟨⟩⟩
theorem c_impl_Hash (l : List Int) (hl : l.length ≤ 16777216) : Sound ty Try.prog 155 [.a (.sl .int l)] [.a (.lit (.int .i64 (hsh l)))] := by
  refine Sound.of X Try.call155 Try.func155 rfl rfl (by decide) Try.ntmps155 (by simp) ?_
  intro zb
  refine W.seq ?_
  refine W.reg X [] [] [0] [] rfl ⟨⟩ ?_
  refine W.seq ?_
  refine W.reg X [] [] [0, 3] [] rfl ⟨⟩ ?_
  refine W.seq ?_
  refine W.seq ?_
  refine W.reg X [] [] [3, 6, 7, 8] [] rfl ⟨⟩ ?_
  refine W.block ?_
  refine W.loopO (fun k => k ≤ l.length) (fun k : Nat => [(3, .one (.a (.lit (.int .i64 (hsh (l.take k)))))), (8, .one (.a (.lit (.int .i64 k))))]) (fun k => []) (fun k => l.length - k) 0 (fun k => rfl) (Nat.zero_le _) rfl ?_
  intro k hk
  refine W.seq ?_
  refine W.reg X [] [] [3, 6, 7, 8, 9] [] rfl ⟨⟩ ?_
  refine W.seq ?_
  refine W.cond rfl (fun hb0 => ?_) (fun hb0 => ?_)
  · try simp only [nb, inr_t, inr_f, isEmpty_t] at hb0
    have hs := hsh_step l k hb0
    refine W.skip ?_
    refine W.seq ?_
    refine W.block ?_
    refine W.seq ?_
    refine W.reg X [] [] [3, 5, 6, 7, 8] [] rfl (by (repeat' (first | exact True.intro | apply And.intro)) <;> first | (intros; omega) | exact rfl | exact El_all _ (by decide) | exact ⟨rfl, El_all _ (by decide)⟩ | ((intro h1; first | (intro h2; first | (intro h3; refine And.intro ?_ ?_) | refine And.intro ?_ ?_) | refine And.intro ?_ ?_) <;> first | omega | ((try simp only [nb, inr_t, inr_f] at *); (try simp (disch := omega) only [i64w]); omega)) | ((try simp only [nb, inr_t, inr_f] at *); (simp (disch := omega) only [i64w]); omega) | (refine fun _ => ?_; dsimp only [hyps, imps]; omega) | (refine fun _ _ => ?_; dsimp only [hyps, imps]; omega) | exact (u8w _).1 | exact (u8w _).2 | exact (u8n _).1 | exact (u8n _).2 | (simp only [byt, maxLen, lens]; omega) | (intros; simp only [nb] at *; omega)) ?_
    refine W.reg X [] [(15, ⟨false, [.a (.lit (.int .i64 _))]⟩)] [3, 6, 7, 8] [] rfl (by (repeat' (first | with_reducible exact AllP.nil | with_reducible refine AllP.mk ?_ ?_ | with_reducible apply And.intro)) <;> skip; (iterate 1 (all_goals try (first | exact (c_impl_Mod _ _ (by first | assumption | omega | (simp; done) | (simp; omega)) (by first | assumption | omega | (simp; done) | (simp; omega))) | exact fun _ => (c_impl_Mod _ _ (by first | assumption | omega | (simp; done) | (simp; omega)) (by first | assumption | omega | (simp; done) | (simp; omega))) | exact fun _ _ => (c_impl_Mod _ _ (by first | assumption | omega | (simp; done) | (simp; omega)) (by first | assumption | omega | (simp; done) | (simp; omega)))))); all_goals (first | (intros; omega) | exact rfl | exact El_all _ (by decide) | exact ⟨rfl, El_all _ (by decide)⟩ | ((intro h1; first | (intro h2; first | (intro h3; refine And.intro ?_ ?_) | refine And.intro ?_ ?_) | refine And.intro ?_ ?_) <;> first | omega | ((try simp only [nb, inr_t, inr_f] at *); (try simp (disch := omega) only [i64w]); omega)) | ((try simp only [nb, inr_t, inr_f] at *); (simp (disch := omega) only [i64w]); omega) | (refine fun _ => ?_; dsimp only [hyps, imps]; omega) | (refine fun _ _ => ?_; dsimp only [hyps, imps]; omega) | exact (u8w _).1 | exact (u8w _).2 | exact (u8n _).1 | exact (u8n _).2 | (simp only [byt, maxLen, lens]; omega) | (intros; simp only [nb] at *; omega))) ?_
    refine W.reg X [] [] [3, 6, 7, 8] [] rfl ⟨⟩ ?_
    refine ⟨k + 1, by omega, by omega, ?_⟩
    rw [wadd _ k rfl (by omega), hs]
    try rfl
  · try simp only [nb, inr_t, inr_f, isEmpty_t] at hb0
    refine W.exit ?_
    refine W.seq ?_
    refine W.reg X [] [] [2] [] rfl ⟨⟩ ?_
    refine W.ret ?_
    exact Fin.ret rfl ⟨by rw [List.take_of_length_le hb0], ⟨⟩⟩
theorem c_spec_Mod (p q : Int) (h1 : 1 ≤ q) (h2 : q ≤ 1000000000000) : Sound ty Try.prog 177 [.a (.lit (.int .i64 p)), .a (.lit (.int .i64 q))] [.a (.lit (.int .i64 (p % q)))] := by
  refine Sound.of X Try.call177 Try.func177 rfl rfl (by decide) Try.ntmps177 (by simp) ?_
  intro zb
  refine W.seq ?_
  refine W.reg X [] [] [0, 1] [] rfl ⟨⟩ ?_
  refine W.seq ?_
  refine W.seq ?_
  refine W.reg X [] [(6, ⟨false, [.a (.lit (.bool _))]⟩)] [0, 1, 7] [] rfl (by (repeat' (first | with_reducible exact AllP.nil | with_reducible refine AllP.mk ?_ ?_ | with_reducible apply And.intro)) <;> skip; (iterate 1 (all_goals try (first | exact (c_spec_l1In _ _ _) | exact fun _ => (c_spec_l1In _ _ _) | exact fun _ _ => (c_spec_l1In _ _ _)))); all_goals (first | (intros; omega) | exact rfl | exact El_all _ (by decide) | exact ⟨rfl, El_all _ (by decide)⟩ | ((intro h1; first | (intro h2; first | (intro h3; refine And.intro ?_ ?_) | refine And.intro ?_ ?_) | refine And.intro ?_ ?_) <;> first | omega | ((try simp only [nb, inr_t, inr_f] at *); (try simp (disch := omega) only [i64w]); omega)) | ((try simp only [nb, inr_t, inr_f] at *); (simp (disch := omega) only [i64w]); omega) | (refine fun _ => ?_; dsimp only [hyps, imps]; omega) | (refine fun _ _ => ?_; dsimp only [hyps, imps]; omega) | exact (u8w _).1 | exact (u8w _).2 | exact (u8n _).1 | exact (u8n _).2 | (simp only [byt, maxLen, lens]; omega) | (intros; simp only [nb] at *; omega))) ?_
  refine W.cond rfl (fun hb0 => ?_) (fun hb0 => ?_)
  · try simp only [nb, inr_t, inr_f, isEmpty_t] at hb0
    omega
  · try simp only [nb, inr_t, inr_f, isEmpty_t] at hb0
    refine W.skip ?_
    refine W.seq ?_
    refine W.reg X [] [] [4] [] rfl (by (repeat' (first | exact True.intro | apply And.intro)) <;> first | (intros; omega) | exact rfl | exact El_all _ (by decide) | exact ⟨rfl, El_all _ (by decide)⟩ | ((intro h1; first | (intro h2; first | (intro h3; refine And.intro ?_ ?_) | refine And.intro ?_ ?_) | refine And.intro ?_ ?_) <;> first | omega | ((try simp only [nb, inr_t, inr_f] at *); (try simp (disch := omega) only [i64w]); omega)) | ((try simp only [nb, inr_t, inr_f] at *); (simp (disch := omega) only [i64w]); omega) | (refine fun _ => ?_; dsimp only [hyps, imps]; omega) | (refine fun _ _ => ?_; dsimp only [hyps, imps]; omega) | exact (u8w _).1 | exact (u8w _).2 | exact (u8n _).1 | exact (u8n _).2 | (simp only [byt, maxLen, lens]; omega) | (intros; simp only [nb] at *; omega)) ?_
    refine W.ret ?_
    exact Fin.ret rfl ⟨by rw [md_eq p q h1 h2], ⟨⟩⟩
theorem c_spec_Hash (l : List Int) (hl : l.length ≤ 16777216) : Sound ty Try.prog 149 [.a (.sl .int l)] [.a (.lit (.int .i64 (hsh l)))] := by
  refine Sound.of X Try.call149 Try.func149 rfl rfl (by decide) Try.ntmps149 (by simp) ?_
  intro zb
  refine W.seq ?_
  refine W.reg X [] [] [0] [] rfl ⟨⟩ ?_
  refine W.seq ?_
  refine W.reg X [] [] [0, 3] [] rfl ⟨⟩ ?_
  refine W.seq ?_
  refine W.seq ?_
  refine W.reg X [] [] [0, 3, 4] [] rfl ⟨⟩ ?_
  refine W.block ?_
  refine W.loopO (fun k => k ≤ l.length) (fun k : Nat => [(3, .one (.a (.lit (.int .i64 (hsh (l.take k)))))), (4, .one (.a (.lit (.int .i64 k))))]) (fun k => []) (fun k => l.length - k) 0 (fun k => rfl) (Nat.zero_le _) rfl ?_
  intro k hk
  refine W.seq ?_
  refine W.seq ?_
  refine W.reg X [] [] [0, 3, 4, 8] [] rfl ⟨⟩ ?_
  refine W.cond rfl (fun hb0 => ?_) (fun hb0 => ?_)
  · try simp only [nb, inr_t, inr_f, isEmpty_t] at hb0
    have hs := hsh_step l k hb0
    refine W.skip ?_
    refine W.seq ?_
    refine W.block ?_
    refine W.reg X [] [(17, ⟨false, [.a (.lit (.int .i64 _))]⟩)] [0, 3, 4] [] rfl (by (repeat' (first | with_reducible exact AllP.nil | with_reducible refine AllP.mk ?_ ?_ | with_reducible apply And.intro)) <;> skip; (iterate 1 (all_goals try (first | exact (c_spec_Mod _ _ (by first | assumption | omega | (simp; done) | (simp; omega)) (by first | assumption | omega | (simp; done) | (simp; omega))) | exact fun _ => (c_spec_Mod _ _ (by first | assumption | omega | (simp; done) | (simp; omega)) (by first | assumption | omega | (simp; done) | (simp; omega))) | exact fun _ _ => (c_spec_Mod _ _ (by first | assumption | omega | (simp; done) | (simp; omega)) (by first | assumption | omega | (simp; done) | (simp; omega)))))); all_goals (first | (intros; omega) | exact rfl | exact El_all _ (by decide) | exact ⟨rfl, El_all _ (by decide)⟩ | ((intro h1; first | (intro h2; first | (intro h3; refine And.intro ?_ ?_) | refine And.intro ?_ ?_) | refine And.intro ?_ ?_) <;> first | omega | ((try simp only [nb, inr_t, inr_f] at *); (try simp (disch := omega) only [i64w]); omega)) | ((try simp only [nb, inr_t, inr_f] at *); (simp (disch := omega) only [i64w]); omega) | (refine fun _ => ?_; dsimp only [hyps, imps]; omega) | (refine fun _ _ => ?_; dsimp only [hyps, imps]; omega) | exact (u8w _).1 | exact (u8w _).2 | exact (u8n _).1 | exact (u8n _).2 | (simp only [byt, maxLen, lens]; omega) | (intros; simp only [nb] at *; omega))) ?_
    refine W.reg X [] [] [0, 3, 4] [] rfl ⟨⟩ ?_
    refine ⟨k + 1, by omega, by omega, ?_⟩
    rw [wadd _ k rfl (by omega), hs]
    try rfl
  · try simp only [nb, inr_t, inr_f, isEmpty_t] at hb0
    refine W.exit ?_
    refine W.seq ?_
    refine W.reg X [] [] [2] [] rfl ⟨⟩ ?_
    refine W.ret ?_
    exact Fin.ret rfl ⟨by rw [List.take_of_length_le hb0], ⟨⟩⟩
theorem c_slices_Concat_int_int (l : List (List Int)) (hl : l.length ≤ 1048576) (hs0 : (l.map List.length).sum ≤ 1099511627776) : Sound ty Try.prog 156 [.a (.sl (.sl .int) l)] [.a (.sl .int l.flatten)] := by
  refine Sound.of X Try.call156 Try.func156 rfl rfl (by decide) Try.ntmps156 (by simp) ?_
  intro zb
  refine W.seq ?_
  refine W.reg X [] [] [0] [] rfl ⟨⟩ ?_
  refine W.seq ?_
  refine W.reg X [] [] [0, 3] [] rfl ⟨⟩ ?_
  refine W.seq ?_
  refine W.seq ?_
  refine W.reg X [] [] [0, 3, 9, 10, 11] [] rfl ⟨⟩ ?_
  refine W.block ?_
  refine W.loopO (fun k => k ≤ l.length) (fun k : Nat => [(3, .one (.a (.lit (.int .i64 ((l.take k).map List.length).sum)))), (11, .one (.a (.lit (.int .i64 k))))]) (fun k => []) (fun k => l.length - k) 0 (fun k => rfl) (Nat.zero_le _) rfl ?_
  intro k hk
  have hle := take_sum_le l List.length k
  refine W.seq ?_
  refine W.reg X [] [] [0, 3, 9, 10, 11, 12] [] rfl ⟨⟩ ?_
  refine W.seq ?_
  refine W.cond rfl (fun hb0 => ?_) (fun hb0 => ?_)
  · try simp only [nb, inr_t, inr_f, isEmpty_t] at hb0
    have hs := lensum_step l (dfl (.sl .int)) k hb0
    have hle2 := take_sum_le l List.length (k + 1)
    rw [hs] at hle2
    refine W.skip ?_
    refine W.seq ?_
    refine W.block ?_
    refine W.seq ?_
    refine W.reg X [] [] [0, 3, 5, 9, 10, 11] [] rfl (by (repeat' (first | exact True.intro | apply And.intro)) <;> first | (intros; omega) | exact rfl | exact El_all _ (by decide) | exact ⟨rfl, El_all _ (by decide)⟩ | ((intro h1; first | (intro h2; first | (intro h3; refine And.intro ?_ ?_) | refine And.intro ?_ ?_) | refine And.intro ?_ ?_) <;> first | omega | ((try simp only [nb, inr_t, inr_f] at *); (try simp (disch := omega) only [i64w]); omega)) | ((try simp only [nb, inr_t, inr_f] at *); (simp (disch := omega) only [i64w]); omega) | (refine fun _ => ?_; dsimp only [hyps, imps]; omega) | (refine fun _ _ => ?_; dsimp only [hyps, imps]; omega) | exact (u8w _).1 | exact (u8w _).2 | exact (u8n _).1 | exact (u8n _).2 | (simp only [byt, maxLen, lens]; omega) | (intros; simp only [nb] at *; omega)) ?_
    refine W.seq ?_
    refine W.reg X [] [] [0, 3, 9, 10, 11] [] rfl (by (repeat' (first | exact True.intro | apply And.intro)) <;> first | (intros; omega) | exact rfl | exact El_all _ (by decide) | exact ⟨rfl, El_all _ (by decide)⟩ | ((intro h1; first | (intro h2; first | (intro h3; refine And.intro ?_ ?_) | refine And.intro ?_ ?_) | refine And.intro ?_ ?_) <;> first | omega | ((try simp only [nb, inr_t, inr_f] at *); (try simp (disch := omega) only [i64w]); omega)) | ((try simp only [nb, inr_t, inr_f] at *); (simp (disch := omega) only [i64w]); omega) | (refine fun _ => ?_; dsimp only [hyps, imps]; omega) | (refine fun _ _ => ?_; dsimp only [hyps, imps]; omega) | exact (u8w _).1 | exact (u8w _).2 | exact (u8n _).1 | exact (u8n _).2 | (simp only [byt, maxLen, lens]; omega) | (intros; simp only [nb] at *; omega)) ?_
    refine W.seq ?_
    refine W.reg X [] [] [0, 3, 9, 10, 11, 20] [] rfl ⟨⟩ ?_
    refine W.cond rfl (fun hb1 => ?_) (fun hb1 => ?_)
    · try simp only [nb, inr_t, inr_f, isEmpty_t] at hb1
      rw [i64w (by omega)] at hb1
      omega
    · try simp only [nb, inr_t, inr_f, isEmpty_t] at hb1
      refine W.skip ?_
      refine W.reg X [] [] [0, 3, 9, 10, 11] [] rfl ⟨⟩ ?_
      refine ⟨k + 1, by omega, by omega, ?_⟩
      rw [wadd _ k rfl (by omega), hs]
      rw [i64w (by simp only [Int.toNat_natCast]; omega)]
      try rfl
  · try simp only [nb, inr_t, inr_f, isEmpty_t] at hb0
    rw [List.take_of_length_le hb0]
    refine W.exit ?_
    refine W.seq ?_
    refine W.reg X [] [(24, ⟨true, [.a (.sl .int [])]⟩), (300024, ⟨true, []⟩)] [0, 6] [] rfl (by (repeat' (first | with_reducible exact AllP.nil | with_reducible refine AllP.mk ?_ ?_ | with_reducible apply And.intro)) <;> skip; (iterate 1 (all_goals try (first | exact (c_slices_Grow_int_int _ hs0) | exact fun _ => (c_slices_Grow_int_int _ hs0) | exact fun _ _ => (c_slices_Grow_int_int _ hs0)))); all_goals (first | (intros; omega) | exact rfl | exact El_all _ (by decide) | exact ⟨rfl, El_all _ (by decide)⟩ | ((intro h1; first | (intro h2; first | (intro h3; refine And.intro ?_ ?_) | refine And.intro ?_ ?_) | refine And.intro ?_ ?_) <;> first | omega | ((try simp only [nb, inr_t, inr_f] at *); (try simp (disch := omega) only [i64w]); omega)) | ((try simp only [nb, inr_t, inr_f] at *); (simp (disch := omega) only [i64w]); omega) | (refine fun _ => ?_; dsimp only [hyps, imps]; omega) | (refine fun _ _ => ?_; dsimp only [hyps, imps]; omega) | exact (u8w _).1 | exact (u8w _).2 | exact (u8n _).1 | exact (u8n _).2 | (simp only [byt, maxLen, lens]; omega) | (intros; simp only [nb] at *; omega))) ?_
    refine W.seq ?_
    refine W.seq ?_
    refine W.reg X [] [] [6, 25, 26, 27] [] rfl ⟨⟩ ?_
    refine W.block ?_
    refine W.loopO (fun k1 => k1 ≤ l.length) (fun k1 : Nat => [(27, .one (.a (.lit (.int .i64 k1))))]) (fun k1 => [(24, .arr .int (l.take k1).flatten)]) (fun k1 => l.length - k1) 0 (fun k1 => rfl) (Nat.zero_le _) rfl ?_
    intro k1 hk1
    have hle1 := flatten_len l k1
    refine W.seq ?_
    refine W.reg X [] [] [6, 25, 26, 27, 28] [] rfl ⟨⟩ ?_
    refine W.seq ?_
    refine W.cond rfl (fun hb2 => ?_) (fun hb2 => ?_)
    · try simp only [nb, inr_t, inr_f, isEmpty_t] at hb2
      have hs1 := flatten_step l (dfl (.sl .int)) k1 hb2
      have hle2 := flatten_len l (k1 + 1)
      rw [hs1, List.length_append] at hle2
      refine W.skip ?_
      refine W.seq ?_
      refine W.block ?_
      refine W.seq ?_
      refine W.reg X [] [] [6, 8, 25, 26, 27] [] rfl (by (repeat' (first | exact True.intro | apply And.intro)) <;> first | (intros; omega) | exact rfl | exact El_all _ (by decide) | exact ⟨rfl, El_all _ (by decide)⟩ | ((intro h1; first | (intro h2; first | (intro h3; refine And.intro ?_ ?_) | refine And.intro ?_ ?_) | refine And.intro ?_ ?_) <;> first | omega | ((try simp only [nb, inr_t, inr_f] at *); (try simp (disch := omega) only [i64w]); omega)) | ((try simp only [nb, inr_t, inr_f] at *); (simp (disch := omega) only [i64w]); omega) | (refine fun _ => ?_; dsimp only [hyps, imps]; omega) | (refine fun _ _ => ?_; dsimp only [hyps, imps]; omega) | exact (u8w _).1 | exact (u8w _).2 | exact (u8n _).1 | exact (u8n _).2 | (simp only [byt, maxLen, lens]; omega) | (intros; simp only [nb] at *; omega)) ?_
      refine W.reg X [(33, 24)] [] [6, 25, 26, 27] [] rfl (by (repeat' (first | exact True.intro | apply And.intro)) <;> first | (intros; omega) | exact rfl | exact El_all _ (by decide) | exact ⟨rfl, El_all _ (by decide)⟩ | ((intro h1; first | (intro h2; first | (intro h3; refine And.intro ?_ ?_) | refine And.intro ?_ ?_) | refine And.intro ?_ ?_) <;> first | omega | ((try simp only [nb, inr_t, inr_f] at *); (try simp (disch := omega) only [i64w]); omega)) | ((try simp only [nb, inr_t, inr_f] at *); (simp (disch := omega) only [i64w]); omega) | (refine fun _ => ?_; dsimp only [hyps, imps]; omega) | (refine fun _ _ => ?_; dsimp only [hyps, imps]; omega) | exact (u8w _).1 | exact (u8w _).2 | exact (u8n _).1 | exact (u8n _).2 | (simp only [byt, maxLen, lens]; omega) | (intros; simp only [nb] at *; omega)) ?_
      refine W.reg X [] [] [6, 25, 26, 27] [] rfl ⟨⟩ ?_
      refine ⟨k1 + 1, by omega, by omega, ?_⟩
      rw [wadd _ k1 rfl (by omega), hs1]
      try rfl
    · try simp only [nb, inr_t, inr_f, isEmpty_t] at hb2
      refine W.exit ?_
      refine W.seq ?_
      refine W.reg X [] [] [2] [] rfl ⟨⟩ ?_
      refine W.ret ?_
      exact Fin.ret rfl ⟨by rw [List.take_of_length_le hb2], ⟨⟩⟩
theorem c_impl_KeyedHash (k : Int) (l : List Int) (hl : l.length ≤ 1048576) : Sound ty Try.prog 126 [.a (.lit (.int .i64 k)), .a (.sl .int l)] [.a (.lit (.int .i64 (kh k l)))] := by
  refine Sound.of X Try.call126 Try.func126 rfl rfl (by decide) Try.ntmps126 (by simp) ?_
  intro zb
  refine W.seq ?_
  refine W.reg X [] [] [0, 1] [] rfl ⟨⟩ ?_
  refine W.seq ?_
  refine W.reg X [] [(11, ⟨true, [.a (.sl .int [[k], l, [k]].flatten)]⟩), (12, ⟨false, [.a (.lit (.int .i64 (hsh [[k], l, [k]].flatten)))]⟩)] [4] [] rfl (by (repeat' (first | with_reducible exact AllP.nil | with_reducible refine AllP.mk ?_ ?_ | with_reducible apply And.intro)) <;> skip; (iterate 2 (all_goals try (first | exact (c_slices_Concat_int_int _ (by simp) (by simp; omega)) | exact fun _ => (c_slices_Concat_int_int _ (by simp) (by simp; omega)) | exact fun _ _ => (c_slices_Concat_int_int _ (by simp) (by simp; omega)) | exact (c_impl_Hash _ (by simp; omega)) | exact fun _ => (c_impl_Hash _ (by simp; omega)) | exact fun _ _ => (c_impl_Hash _ (by simp; omega))))); all_goals (first | (intros; omega) | exact rfl | exact El_all _ (by decide) | exact ⟨rfl, El_all _ (by decide)⟩ | ((intro h1; first | (intro h2; first | (intro h3; refine And.intro ?_ ?_) | refine And.intro ?_ ?_) | refine And.intro ?_ ?_) <;> first | omega | ((try simp only [nb, inr_t, inr_f] at *); (try simp (disch := omega) only [i64w]); omega)) | ((try simp only [nb, inr_t, inr_f] at *); (simp (disch := omega) only [i64w]); omega) | (refine fun _ => ?_; dsimp only [hyps, imps]; omega) | (refine fun _ _ => ?_; dsimp only [hyps, imps]; omega) | exact (u8w _).1 | exact (u8w _).2 | exact (u8n _).1 | exact (u8n _).2 | (simp only [byt, maxLen, lens]; omega) | (intros; simp only [nb] at *; omega))) ?_
  refine W.ret ?_
  exact Fin.ret rfl ⟨rfl, ⟨⟩⟩
theorem c_spec_KeyedHash (k : Int) (l : List Int) (hl : l.length ≤ 1048576) : Sound ty Try.prog 122 [.a (.lit (.int .i64 k)), .a (.sl .int l)] [.a (.lit (.int .i64 (kh k l)))] := by
  refine Sound.of X Try.call122 Try.func122 rfl rfl (by decide) Try.ntmps122 (by simp) ?_
  intro zb
  refine W.seq ?_
  refine W.reg X [] [] [0, 1] [] rfl ⟨⟩ ?_
  refine W.seq ?_
  refine W.reg X [(8, 6), (11, 6)] [(12, ⟨false, [.a (.lit (.int .i64 (hsh ([k] ++ l ++ [k]))))]⟩)] [4] [] rfl (by (repeat' (first | with_reducible exact AllP.nil | with_reducible refine AllP.mk ?_ ?_ | with_reducible apply And.intro)) <;> skip; (iterate 1 (all_goals try (first | exact (c_spec_Hash _ (by simp; omega)) | exact fun _ => (c_spec_Hash _ (by simp; omega)) | exact fun _ _ => (c_spec_Hash _ (by simp; omega))))); all_goals (first | (intros; omega) | exact rfl | exact El_all _ (by decide) | exact ⟨rfl, El_all _ (by decide)⟩ | ((intro h1; first | (intro h2; first | (intro h3; refine And.intro ?_ ?_) | refine And.intro ?_ ?_) | refine And.intro ?_ ?_) <;> first | omega | ((try simp only [nb, inr_t, inr_f] at *); (try simp (disch := omega) only [i64w]); omega)) | ((try simp only [nb, inr_t, inr_f] at *); (simp (disch := omega) only [i64w]); omega) | (refine fun _ => ?_; dsimp only [hyps, imps]; omega) | (refine fun _ _ => ?_; dsimp only [hyps, imps]; omega) | exact (u8w _).1 | exact (u8w _).2 | exact (u8n _).1 | exact (u8n _).2 | (simp only [byt, maxLen, lens]; omega) | (intros; simp only [nb] at *; omega))) ?_
  refine W.ret ?_
  exact Fin.ret rfl ⟨rfl, ⟨⟩⟩
theorem c_impl_orOne (n : Int) : Sound ty Try.prog 162 [.a (.lit (.int .i64 n))] [.a (.lit (.int .i64 (or1 n)))] := by
  refine Sound.of X Try.call162 Try.func162 rfl rfl (by decide) Try.ntmps162 (by simp) ?_
  intro zb
  refine W.seq ?_
  refine W.reg X [] [] [0] [] rfl ⟨⟩ ?_
  refine W.seq ?_
  refine W.seq ?_
  refine W.reg X [] [] [0, 4] [] rfl ⟨⟩ ?_
  refine W.cond rfl (fun hb0 => ?_) (fun hb0 => ?_)
  · try simp only [nb, inr_t, inr_f, isEmpty_t] at hb0
    refine W.seq ?_
    refine W.reg X [] [] [2] [] rfl ⟨⟩ ?_
    refine W.ret ?_
    exact Fin.ret rfl ⟨by rw [or1, if_pos hb0], ⟨⟩⟩
  · try simp only [nb, inr_t, inr_f, isEmpty_t] at hb0
    refine W.skip ?_
    refine W.seq ?_
    refine W.reg X [] [] [2] [] rfl ⟨⟩ ?_
    refine W.ret ?_
    exact Fin.ret rfl ⟨by rw [or1, if_neg (by simpa using hb0)], ⟨⟩⟩
theorem c_spec_Max (a b : Int) : Sound ty Try.prog 66 [.a (.lit (.int .i64 a)), .a (.lit (.int .i64 b))] [.a (.lit (.int .i64 (if b > a then b else a)))] := by
  refine Sound.of X Try.call66 Try.func66 rfl rfl (by decide) Try.ntmps66 (by simp) ?_
  intro zb
  refine W.seq ?_
  refine W.reg X [] [] [0, 1] [] rfl ⟨⟩ ?_
  refine W.seq ?_
  refine W.seq ?_
  refine W.reg X [] [] [0, 1, 7] [] rfl ⟨⟩ ?_
  refine W.cond rfl (fun hb0 => ?_) (fun hb0 => ?_)
  · try simp only [nb, inr_t, inr_f, isEmpty_t] at hb0
    refine W.seq ?_
    refine W.reg X [] [] [4] [] rfl ⟨⟩ ?_
    refine W.ret ?_
    exact Fin.ret rfl ⟨by rw [if_pos (by omega)], ⟨⟩⟩
  · try simp only [nb, inr_t, inr_f, isEmpty_t] at hb0
    refine W.skip ?_
    refine W.seq ?_
    refine W.reg X [] [] [4] [] rfl ⟨⟩ ?_
    refine W.ret ?_
    exact Fin.ret rfl ⟨by rw [if_neg (by omega)], ⟨⟩⟩
theorem c_impl_ChildSeed (s k : Int) : Sound ty Try.prog 125 [.a (.lit (.int .i64 s)), .a (.lit (.int .i64 k))] [.a (.lit (.int .i64 (cs s k)))] := by
  refine Sound.of X Try.call125 Try.func125 rfl rfl (by decide) Try.ntmps125 (by simp) ?_
  intro zb
  refine W.seq ?_
  refine W.reg X [] [] [0, 1] [] rfl ⟨⟩ ?_
  refine W.seq ?_
  refine W.reg X [] [(9, ⟨false, [.a (.lit (.int .i64 _))]⟩)] [5] [] rfl (by (repeat' (first | with_reducible exact AllP.nil | with_reducible refine AllP.mk ?_ ?_ | with_reducible apply And.intro)) <;> skip; (iterate 1 (all_goals try (first | exact (c_impl_KeyedHash _ _ (by first | assumption | omega | (simp; done) | (simp; omega))) | exact fun _ => (c_impl_KeyedHash _ _ (by first | assumption | omega | (simp; done) | (simp; omega))) | exact fun _ _ => (c_impl_KeyedHash _ _ (by first | assumption | omega | (simp; done) | (simp; omega)))))); all_goals (first | (intros; omega) | exact rfl | exact El_all _ (by decide) | exact ⟨rfl, El_all _ (by decide)⟩ | ((intro h1; first | (intro h2; first | (intro h3; refine And.intro ?_ ?_) | refine And.intro ?_ ?_) | refine And.intro ?_ ?_) <;> first | omega | ((try simp only [nb, inr_t, inr_f] at *); (try simp (disch := omega) only [i64w]); omega)) | ((try simp only [nb, inr_t, inr_f] at *); (simp (disch := omega) only [i64w]); omega) | (refine fun _ => ?_; dsimp only [hyps, imps]; omega) | (refine fun _ _ => ?_; dsimp only [hyps, imps]; omega) | exact (u8w _).1 | exact (u8w _).2 | exact (u8n _).1 | exact (u8n _).2 | (simp only [byt, maxLen, lens]; omega) | (intros; simp only [nb] at *; omega))) ?_
  refine W.seq ?_
  refine W.reg X [] [] [4] [] rfl (by (repeat' (first | exact True.intro | apply And.intro)) <;> first | (intros; omega) | exact rfl | exact El_all _ (by decide) | exact ⟨rfl, El_all _ (by decide)⟩ | ((intro h1; first | (intro h2; first | (intro h3; refine And.intro ?_ ?_) | refine And.intro ?_ ?_) | refine And.intro ?_ ?_) <;> first | omega | ((try simp only [nb, inr_t, inr_f] at *); (try simp (disch := omega) only [i64w]); omega)) | ((try simp only [nb, inr_t, inr_f] at *); (simp (disch := omega) only [i64w]); omega) | (refine fun _ => ?_; dsimp only [hyps, imps]; omega) | (refine fun _ _ => ?_; dsimp only [hyps, imps]; omega) | exact (u8w _).1 | exact (u8w _).2 | exact (u8n _).1 | exact (u8n _).2 | (simp only [byt, maxLen, lens]; omega) | (intros; simp only [nb] at *; omega)) ?_
  refine W.ret ?_
  exact Fin.ret rfl ⟨by rw [cs_eq (kh_range _ _).1 (kh_range _ _).2]; rfl, ⟨⟩⟩
theorem c_impl_StreamBytes (s n : Int) (h0 : 0 ≤ n) (h1 : n ≤ 400) : Sound ty Try.prog 158 [.a (.lit (.int .i64 s)), .a (.lit (.int .i64 n))] [.a (.sl .u8 (stream s n.toNat))] := by
  refine Sound.of X Try.call158 Try.func158 rfl rfl (by decide) Try.ntmps158 (by simp) ?_
  intro zb
  refine W.seq ?_
  refine W.reg X [] [] [0, 1] [] rfl ⟨⟩ ?_
  refine W.seq ?_
  refine W.seq ?_
  refine W.reg X [] [(8, ⟨false, [.a (.lit (.bool _))]⟩)] [0, 1, 9] [] rfl (by (repeat' (first | with_reducible exact AllP.nil | with_reducible refine AllP.mk ?_ ?_ | with_reducible apply And.intro)) <;> skip; (iterate 1 (all_goals try (first | exact (c_impl_InRange _ _ _) | exact fun _ => (c_impl_InRange _ _ _) | exact fun _ _ => (c_impl_InRange _ _ _)))); all_goals (first | (intros; omega) | exact rfl | exact El_all _ (by decide) | exact ⟨rfl, El_all _ (by decide)⟩ | ((intro h1; first | (intro h2; first | (intro h3; refine And.intro ?_ ?_) | refine And.intro ?_ ?_) | refine And.intro ?_ ?_) <;> first | omega | ((try simp only [nb, inr_t, inr_f] at *); (try simp (disch := omega) only [i64w]); omega)) | ((try simp only [nb, inr_t, inr_f] at *); (simp (disch := omega) only [i64w]); omega) | (refine fun _ => ?_; dsimp only [hyps, imps]; omega) | (refine fun _ _ => ?_; dsimp only [hyps, imps]; omega) | exact (u8w _).1 | exact (u8w _).2 | exact (u8n _).1 | exact (u8n _).2 | (simp only [byt, maxLen, lens]; omega) | (intros; simp only [nb] at *; omega))) ?_
  refine W.cond rfl (fun hb0 => ?_) (fun hb0 => ?_)
  · try simp only [nb, inr_t, inr_f, isEmpty_t] at hb0
    omega
  · try simp only [nb, inr_t, inr_f, isEmpty_t] at hb0
    refine W.skip ?_
    refine W.seq ?_
    refine W.reg X [] [] [0, 1, 5] [] rfl (by (repeat' (first | exact True.intro | apply And.intro)) <;> first | (intros; omega) | exact rfl | exact El_all _ (by decide) | exact ⟨rfl, El_all _ (by decide)⟩ | ((intro h1; first | (intro h2; first | (intro h3; refine And.intro ?_ ?_) | refine And.intro ?_ ?_) | refine And.intro ?_ ?_) <;> first | omega | ((try simp only [nb, inr_t, inr_f] at *); (try simp (disch := omega) only [i64w]); omega)) | ((try simp only [nb, inr_t, inr_f] at *); (simp (disch := omega) only [i64w]); omega) | (refine fun _ => ?_; dsimp only [hyps, imps]; omega) | (refine fun _ _ => ?_; dsimp only [hyps, imps]; omega) | exact (u8w _).1 | exact (u8w _).2 | exact (u8n _).1 | exact (u8n _).2 | (simp only [byt, maxLen, lens]; omega) | (intros; simp only [nb] at *; omega)) ?_
    refine W.seq ?_
    refine W.seq ?_
    refine W.reg X [] [] [0, 5, 11, 12] [] rfl ⟨⟩ ?_
    refine W.block ?_
    refine W.loopO (fun k => k ≤ n.toNat) (fun k : Nat => [(12, .one (.a (.lit (.int .i64 k))))]) (fun k => [(10, .arr .u8 (stream s k))]) (fun k => n.toNat - k) 0 (fun k => rfl) (Nat.zero_le _) rfl ?_
    intro k hk
    have hle := stream_len s k
    refine W.seq ?_
    refine W.reg X [] [] [0, 5, 11, 12, 13] [] rfl ⟨⟩ ?_
    refine W.seq ?_
    refine W.cond rfl (fun hb1 => ?_) (fun hb1 => ?_)
    · try simp only [nb, inr_t, inr_f, isEmpty_t] at hb1
      have hs := stream_step s k (by omega)
      refine W.skip ?_
      refine W.seq ?_
      refine W.block ?_
      refine W.seq ?_
      refine W.reg X [] [] [0, 5, 6, 11, 12] [] rfl ⟨⟩ ?_
      refine W.reg X [(23, 10)] [(19, ⟨false, [.a (.lit (.int .i64 _))]⟩)] [0, 5, 11, 12] [] rfl (by (repeat' (first | with_reducible exact AllP.nil | with_reducible refine AllP.mk ?_ ?_ | with_reducible apply And.intro)) <;> skip; (iterate 1 (all_goals try (first | exact (c_impl_ChildSeed _ _) | exact fun _ => (c_impl_ChildSeed _ _) | exact fun _ _ => (c_impl_ChildSeed _ _)))); all_goals (first | (intros; omega) | exact rfl | exact El_all _ (by decide) | exact ⟨rfl, El_all _ (by decide)⟩ | ((intro h1; first | (intro h2; first | (intro h3; refine And.intro ?_ ?_) | refine And.intro ?_ ?_) | refine And.intro ?_ ?_) <;> first | omega | ((try simp only [nb, inr_t, inr_f] at *); (try simp (disch := omega) only [i64w]); omega)) | ((try simp only [nb, inr_t, inr_f] at *); (simp (disch := omega) only [i64w]); omega) | (refine fun _ => ?_; dsimp only [hyps, imps]; omega) | (refine fun _ _ => ?_; dsimp only [hyps, imps]; omega) | exact (u8w _).1 | exact (u8w _).2 | exact (u8n _).1 | exact (u8n _).2 | (simp only [byt, maxLen, lens]; omega) | (intros; simp only [nb] at *; omega))) ?_
      refine W.reg X [] [] [0, 5, 11, 12] [] rfl ⟨⟩ ?_
      refine ⟨k + 1, by omega, by omega, ?_⟩
      rw [wadd _ k rfl (by omega), hs]
      try rfl
    · try simp only [nb, inr_t, inr_f, isEmpty_t] at hb1
      refine W.exit ?_
      refine W.seq ?_
      refine W.reg X [] [] [4] [] rfl ⟨⟩ ?_
      refine W.ret ?_
      exact Fin.ret rfl ⟨by rw [show k = n.toNat by omega], ⟨⟩⟩
theorem c_spec_ChildSeed (s k : Int) : Sound ty Try.prog 121 [.a (.lit (.int .i64 s)), .a (.lit (.int .i64 k))] [.a (.lit (.int .i64 (cs s k)))] := by
  refine Sound.of X Try.call121 Try.func121 rfl rfl (by decide) Try.ntmps121 (by simp) ?_
  intro zb
  refine W.seq ?_
  refine W.reg X [] [] [0, 1] [] rfl ⟨⟩ ?_
  refine W.seq ?_
  refine W.reg X [] [(9, ⟨false, [.a (.lit (.int .i64 _))]⟩)] [5] [] rfl (by (repeat' (first | with_reducible exact AllP.nil | with_reducible refine AllP.mk ?_ ?_ | with_reducible apply And.intro)) <;> skip; (iterate 1 (all_goals try (first | exact (c_spec_KeyedHash _ _ (by first | assumption | omega | (simp; done) | (simp; omega))) | exact fun _ => (c_spec_KeyedHash _ _ (by first | assumption | omega | (simp; done) | (simp; omega))) | exact fun _ _ => (c_spec_KeyedHash _ _ (by first | assumption | omega | (simp; done) | (simp; omega)))))); all_goals (first | (intros; omega) | exact rfl | exact El_all _ (by decide) | exact ⟨rfl, El_all _ (by decide)⟩ | ((intro h1; first | (intro h2; first | (intro h3; refine And.intro ?_ ?_) | refine And.intro ?_ ?_) | refine And.intro ?_ ?_) <;> first | omega | ((try simp only [nb, inr_t, inr_f] at *); (try simp (disch := omega) only [i64w]); omega)) | ((try simp only [nb, inr_t, inr_f] at *); (simp (disch := omega) only [i64w]); omega) | (refine fun _ => ?_; dsimp only [hyps, imps]; omega) | (refine fun _ _ => ?_; dsimp only [hyps, imps]; omega) | exact (u8w _).1 | exact (u8w _).2 | exact (u8n _).1 | exact (u8n _).2 | (simp only [byt, maxLen, lens]; omega) | (intros; simp only [nb] at *; omega))) ?_
  refine W.seq ?_
  refine W.reg X [] [] [4] [] rfl (by (repeat' (first | exact True.intro | apply And.intro)) <;> first | (intros; omega) | exact rfl | exact El_all _ (by decide) | exact ⟨rfl, El_all _ (by decide)⟩ | ((intro h1; first | (intro h2; first | (intro h3; refine And.intro ?_ ?_) | refine And.intro ?_ ?_) | refine And.intro ?_ ?_) <;> first | omega | ((try simp only [nb, inr_t, inr_f] at *); (try simp (disch := omega) only [i64w]); omega)) | ((try simp only [nb, inr_t, inr_f] at *); (simp (disch := omega) only [i64w]); omega) | (refine fun _ => ?_; dsimp only [hyps, imps]; omega) | (refine fun _ _ => ?_; dsimp only [hyps, imps]; omega) | exact (u8w _).1 | exact (u8w _).2 | exact (u8n _).1 | exact (u8n _).2 | (simp only [byt, maxLen, lens]; omega) | (intros; simp only [nb] at *; omega)) ?_
  refine W.ret ?_
  exact Fin.ret rfl ⟨by rw [cs_eq (kh_range _ _).1 (kh_range _ _).2]; rfl, ⟨⟩⟩
theorem c_spec_StreamBytes (s n : Int) (h0 : 0 ≤ n) (h1 : n ≤ 400) : Sound ty Try.prog 151 [.a (.lit (.int .i64 s)), .a (.lit (.int .i64 n))] [.a (.sl .u8 (stream s n.toNat))] := by
  refine Sound.of X Try.call151 Try.func151 rfl rfl (by decide) Try.ntmps151 (by simp) ?_
  intro zb
  refine W.seq ?_
  refine W.reg X [] [] [0, 1] [] rfl ⟨⟩ ?_
  refine W.seq ?_
  refine W.reg X [] [] [0, 1, 5] [] rfl (by (repeat' (first | exact True.intro | apply And.intro)) <;> first | (intros; omega) | exact rfl | exact El_all _ (by decide) | exact ⟨rfl, El_all _ (by decide)⟩ | ((intro h1; first | (intro h2; first | (intro h3; refine And.intro ?_ ?_) | refine And.intro ?_ ?_) | refine And.intro ?_ ?_) <;> first | omega | ((try simp only [nb, inr_t, inr_f] at *); (try simp (disch := omega) only [i64w]); omega)) | ((try simp only [nb, inr_t, inr_f] at *); (simp (disch := omega) only [i64w]); omega) | (refine fun _ => ?_; dsimp only [hyps, imps]; omega) | (refine fun _ _ => ?_; dsimp only [hyps, imps]; omega) | exact (u8w _).1 | exact (u8w _).2 | exact (u8n _).1 | exact (u8n _).2 | (simp only [byt, maxLen, lens]; omega) | (intros; simp only [nb] at *; omega)) ?_
  refine W.seq ?_
  refine W.seq ?_
  refine W.reg X [] [] [0, 1, 5, 6] [] rfl ⟨⟩ ?_
  refine W.block ?_
  refine W.loopO (fun k => k ≤ n.toNat) (fun k : Nat => [(6, .one (.a (.lit (.int .i64 k))))]) (fun k => [(7, .arr .u8 (stream s k))]) (fun k => n.toNat - k) 0 (fun k => rfl) (Nat.zero_le _) rfl ?_
  intro k hk
  have hle := stream_len s k
  refine W.seq ?_
  refine W.seq ?_
  refine W.reg X [] [] [0, 1, 5, 6, 14] [] rfl ⟨⟩ ?_
  refine W.cond rfl (fun hb0 => ?_) (fun hb0 => ?_)
  · try simp only [nb, inr_t, inr_f, isEmpty_t] at hb0
    have hs := stream_step s k (by omega)
    refine W.skip ?_
    refine W.seq ?_
    refine W.block ?_
    refine W.reg X [(25, 7)] [(21, ⟨false, [.a (.lit (.int .i64 _))]⟩)] [0, 1, 5, 6] [] rfl (by (repeat' (first | with_reducible exact AllP.nil | with_reducible refine AllP.mk ?_ ?_ | with_reducible apply And.intro)) <;> skip; (iterate 1 (all_goals try (first | exact (c_spec_ChildSeed _ _) | exact fun _ => (c_spec_ChildSeed _ _) | exact fun _ _ => (c_spec_ChildSeed _ _)))); all_goals (first | (intros; omega) | exact rfl | exact El_all _ (by decide) | exact ⟨rfl, El_all _ (by decide)⟩ | ((intro h1; first | (intro h2; first | (intro h3; refine And.intro ?_ ?_) | refine And.intro ?_ ?_) | refine And.intro ?_ ?_) <;> first | omega | ((try simp only [nb, inr_t, inr_f] at *); (try simp (disch := omega) only [i64w]); omega)) | ((try simp only [nb, inr_t, inr_f] at *); (simp (disch := omega) only [i64w]); omega) | (refine fun _ => ?_; dsimp only [hyps, imps]; omega) | (refine fun _ _ => ?_; dsimp only [hyps, imps]; omega) | exact (u8w _).1 | exact (u8w _).2 | exact (u8n _).1 | exact (u8n _).2 | (simp only [byt, maxLen, lens]; omega) | (intros; simp only [nb] at *; omega))) ?_
    refine W.reg X [] [] [0, 1, 5, 6] [] rfl ⟨⟩ ?_
    refine ⟨k + 1, by omega, by omega, ?_⟩
    rw [wadd _ k rfl (by omega), hs]
    try rfl
  · try simp only [nb, inr_t, inr_f, isEmpty_t] at hb0
    refine W.exit ?_
    refine W.seq ?_
    refine W.reg X [] [] [4] [] rfl ⟨⟩ ?_
    refine W.ret ?_
    exact Fin.ret rfl ⟨by rw [show k = n.toNat by omega], ⟨⟩⟩
end Go.Proofs.Ytfiaikmlnemnfaa.G
