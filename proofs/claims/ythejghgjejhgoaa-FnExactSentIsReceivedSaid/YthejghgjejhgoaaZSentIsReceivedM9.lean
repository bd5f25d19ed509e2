/-
  FnExactSentIsReceived, walked by the symbolic machine: it returns true.
-/
import Derived.Test.YthejghgjejhgoaaZSentIsReceivedM8
import Derived.ProofKit
import Derived.Lib.AppendZeros
import Derived.Test.YthejghgjejhgoaaZSentIsReceivedM7
namespace Go.Proofs.Ythejghgjejhgoaa.G
set_option linter.all false
open Go.RowKit L D
set_option maxRecDepth 100000
theorem grow_ret {w w' : World} {t : Tag} {g n : Nat} {c : Array Value} (hg : g = w.heap.size) (hb : Below w.heap.size w w') (hc : w'.heap[g]? = some (.cells c (ty t) (0, 0))) (hs : c.size = n * kk t) (hn : n ≤ maxLen) :
    Ret ty w [.a (.sl t [])] (.returned (.slice (some ⟨g, 0, none⟩) 0 n)) w' := by
  have hown : Own w.heap.size w' (g :: ([] : List (List Nat)).flatten) := ⟨by simp, fun b hbm => by simp at hbm; omega, fun b hbm => by simp at hbm; subst hbm; exact ⟨_, _, hc⟩⟩
  have hp : Part (kk t) (rd t) w.heap.size (ty t) w' g n ([] : List (T t)) [] := ⟨⟨c, hc, hs⟩, ⟨rfl, by simp⟩, hown, hn⟩
  have hB := Part.bld (fine t) hp (Nat.zero_le _)
  exact ⟨_, _, rfl, hb, hown, _, [], hB, rfl, by simp⟩
theorem nil_ret {w : World} {t : Tag} : Ret ty w [.a (.sl t [])] (.returned nilv) w := by
  refine ⟨_, [], rfl, Below.refl _ _, Own.nil _ _, [], [], ⟨[], [], ?_, rfl, by simp, rfl, Own.nil _ _⟩, rfl, rfl⟩
  exact ⟨by simp, Or.inl ⟨rfl, rfl⟩⟩
theorem Grow_int (w : World) (n : Nat) (h1 : n ≤ 1099511627776) : Calls Try.prog 89 #[nilv, .int .i64 n] w (Ret ty w [.a (.sl .int [])]) := by
  have hEl : El Try.prog ty .int := El_all _ (by decide)
  cases hq : Try.prog.info? (ty .int) with
  | none => simp [El, hq] at hEl
  | some inf =>
    simp [El, hq] at hEl
    obtain ⟨z1, z2, z3⟩ := hEl
    by_cases h0 : n = 0
    · subst h0
      go_enter Try.func89, Try.ntmps89
      go_wp2
      go_ret
      exact nil_ret
    · have hsz : inf.size = 1 := z2
      have hby : inf.bytes ≤ 8 := by rw [z3]; decide
      have hmul : n * inf.bytes ≤ 8796093022208 := Nat.le_trans (Nat.mul_le_mul (show n ≤ 1099511627776 from h1) hby) (by decide)
      have hrun := Lib.run_append_nil_zeros (P := Try.prog) w 27 3 27 (ty .int) inf (zval .int) .i64 .i64 (X.kind 27).1 (X.kind 3) hq z1 n (by omega) (by omega) (by omega) (by omega)
      have hge := grownCap_ge w n 0 (ty .int)
      have hmx := grownCap_le_maxLen w n 0 (ty .int) (by unfold maxLen; omega)
      generalize grownCap w n 0 (ty .int) = g at hrun hge hmx
      go_enter Try.func89, Try.ntmps89
      go_wp2_with (at_builtin; refine Lib.wpList_append_run _ rfl _ _ _ _ rfl _ _ rfl rfl _ _ hrun ?_)
      go_ret
      refine grow_ret (t := .int) rfl ((Below.refl _ _).drew.alloc (Nat.le_refl _) _) (alloc_top rfl) ?_ hmx
      rw [Array.size_append, size_zeroCells, size_zeroCells, ← Nat.add_mul, show n + (g - n) = g by omega]
      rfl
theorem c_slices_Grow_int_int (n : Nat) (h1 : n ≤ 1099511627776) : Sound ty Try.prog 89 [.a (.lit nilv), .a (.lit (.int .i64 n))] [.a (.sl .int [])] := by
  refine ⟨fun args w => Try.call89 args w, fun w us _ ha => ?_⟩
  match us, ha with
  | [u1, u2], ⟨⟨_, e1⟩, ⟨_, e2⟩, _⟩ =>
    obtain ⟨e1, _⟩ := e1
    obtain ⟨e2, _⟩ := e2
    rw [e1, e2]
    exact Grow_int w n h1

end Go.Proofs.Ythejghgjejhgoaa.G
namespace Go.Proofs.Ythejghgjejhgoaa.G
set_option linter.all false
open Go.RowKit L D
set_option maxRecDepth 100000
theorem c_impl_InRange (x lo hi : Int) : Sound ty Try.prog 45 [.a (.lit (.int .i64 x)), .a (.lit (.int .i64 lo)), .a (.lit (.int .i64 hi))] [.a (.lit (.bool (inr x lo hi)))] := by
  refine Sound.of X Try.call45 Try.func45 rfl rfl (by decide) Try.ntmps45 (by simp) ?_
  intro zb
  refine W.seq ?_
  refine W.reg X [] [] [0, 1, 2] [] rfl ⟨⟩ ?_
  refine W.seq ?_
  refine W.reg X [] [] [6] [] rfl ⟨⟩ ?_
  refine W.ret ?_
  exact Fin.ret rfl ⟨rfl, ⟨⟩⟩
theorem c_spec_l1In (x lo hi : Int) : Sound ty Try.prog 36 [.a (.lit (.int .i64 x)), .a (.lit (.int .i64 lo)), .a (.lit (.int .i64 hi))] [.a (.lit (.bool (inr x lo hi)))] := by
  refine Sound.of X Try.call36 Try.func36 rfl rfl (by decide) Try.ntmps36 (by simp) ?_
  intro zb
  refine W.seq ?_
  refine W.reg X [] [] [0, 1, 2] [] rfl ⟨⟩ ?_
  refine W.seq ?_
  refine W.reg X [] [] [6] [] rfl ⟨⟩ ?_
  refine W.ret ?_
  exact Fin.ret rfl ⟨rfl, ⟨⟩⟩
theorem c_impl_Mod (p q : Int) (h1 : 1 ≤ q) (h2 : q ≤ 1000000000000) : Sound ty Try.prog 88 [.a (.lit (.int .i64 p)), .a (.lit (.int .i64 q))] [.a (.lit (.int .i64 (p % q)))] := by
  refine Sound.of X Try.call88 Try.func88 rfl rfl (by decide) Try.ntmps88 (by simp) ?_
  intro zb
  refine W.seq ?_
  refine W.reg X [] [] [0, 1] [] rfl ⟨⟩ ?_
  refine W.seq ?_
  refine W.seq ?_
  refine W.reg X [] [(6, ⟨false, [.a (.lit (.bool _))]⟩)] [0, 1, 7] [] rfl (by (repeat' (first | with_reducible exact AllP.nil | with_reducible refine AllP.mk ?_ ?_ | with_reducible apply And.intro)) <;> skip; (iterate 1 (all_goals try (first | exact (c_impl_InRange _ _ _))))) ?_
  refine W.cond rfl (fun hb0 => ?_) (fun hb0 => ?_)
  · try simp only [nb, inr_t, inr_f, isEmpty_t] at hb0
    omega
  · try simp only [nb, inr_t, inr_f, isEmpty_t] at hb0
    refine W.skip ?_
    refine W.seq ?_
    refine W.reg X [] [] [4] [] rfl (by (repeat' (first | exact True.intro | apply And.intro)) <;> first | (intros; omega)) ?_
    refine W.ret ?_
    exact Fin.ret rfl ⟨by rw [md_eq p q h1 h2], ⟨⟩⟩
theorem c_impl_Hash (l : List Int) (hl : l.length ≤ 16777216) : Sound ty Try.prog 69 [.a (.sl .int l)] [.a (.lit (.int .i64 (hsh l)))] := by
  refine Sound.of X Try.call69 Try.func69 rfl rfl (by decide) Try.ntmps69 (by simp) ?_
  intro zb
  refine W.seq ?_
  refine W.reg X [] [] [0] [] rfl ⟨⟩ ?_
  refine W.seq ?_
  refine W.reg X [] [] [0, 3] [] rfl ⟨⟩ ?_
  refine W.seq ?_
  refine W.seq ?_
  refine W.reg X [] [] [3, 6, 7, 8] [] rfl ⟨⟩ ?_
  refine W.block ?_
  refine W.loopO (fun k => k ≤ l.length) (fun k : Nat => [(3, .one (.a (.lit (.int .i64 (hsh (l.take k)))))), (8, .one (.a (.lit (.int .i64 k))))]) (fun k => []) (fun k => l.length - k) 0 (fun k => rfl) (Nat.zero_le _) rfl ?_
  intro k hk
  refine W.seq ?_
  refine W.reg X [] [] [3, 6, 7, 8, 9] [] rfl ⟨⟩ ?_
  refine W.seq ?_
  refine W.cond rfl (fun hb0 => ?_) (fun hb0 => ?_)
  · try simp only [nb, inr_t, inr_f, isEmpty_t] at hb0
    have hs := hsh_step l k hb0
    refine W.skip ?_
    refine W.seq ?_
    refine W.block ?_
    refine W.seq ?_
    refine W.reg X [] [] [3, 5, 6, 7, 8] [] rfl (by (repeat' (first | exact True.intro | apply And.intro)) <;> first | (intros; omega)) ?_
    refine W.reg X [] [(15, ⟨false, [.a (.lit (.int .i64 _))]⟩)] [3, 6, 7, 8] [] rfl (by (repeat' (first | with_reducible exact AllP.nil | with_reducible refine AllP.mk ?_ ?_ | with_reducible apply And.intro)) <;> skip; (iterate 1 (all_goals try (first | exact (c_impl_Mod _ _ (by first | assumption | omega | (simp; done) | (simp; omega)) (by first | assumption | omega | (simp; done) | (simp; omega)))))); all_goals (first | (intros; omega))) ?_
    refine W.reg X [] [] [3, 6, 7, 8] [] rfl ⟨⟩ ?_
    refine ⟨k + 1, by omega, by omega, ?_⟩
    rw [wadd _ k rfl (by omega), hs]
    try rfl
  · try simp only [nb, inr_t, inr_f, isEmpty_t] at hb0
    refine W.exit ?_
    refine W.seq ?_
    refine W.reg X [] [] [2] [] rfl ⟨⟩ ?_
    refine W.ret ?_
    exact Fin.ret rfl ⟨by rw [List.take_of_length_le hb0], ⟨⟩⟩
theorem c_spec_Mod (p q : Int) (h1 : 1 ≤ q) (h2 : q ≤ 1000000000000) : Sound ty Try.prog 84 [.a (.lit (.int .i64 p)), .a (.lit (.int .i64 q))] [.a (.lit (.int .i64 (p % q)))] := by
  refine Sound.of X Try.call84 Try.func84 rfl rfl (by decide) Try.ntmps84 (by simp) ?_
  intro zb
  refine W.seq ?_
  refine W.reg X [] [] [0, 1] [] rfl ⟨⟩ ?_
  refine W.seq ?_
  refine W.seq ?_
  refine W.reg X [] [(6, ⟨false, [.a (.lit (.bool _))]⟩)] [0, 1, 7] [] rfl (by (repeat' (first | with_reducible exact AllP.nil | with_reducible refine AllP.mk ?_ ?_ | with_reducible apply And.intro)) <;> skip; (iterate 1 (all_goals try (first | exact (c_spec_l1In _ _ _))))) ?_
  refine W.cond rfl (fun hb0 => ?_) (fun hb0 => ?_)
  · try simp only [nb, inr_t, inr_f, isEmpty_t] at hb0
    omega
  · try simp only [nb, inr_t, inr_f, isEmpty_t] at hb0
    refine W.skip ?_
    refine W.seq ?_
    refine W.reg X [] [] [4] [] rfl (by (repeat' (first | exact True.intro | apply And.intro)) <;> first | (intros; omega)) ?_
    refine W.ret ?_
    exact Fin.ret rfl ⟨by rw [md_eq p q h1 h2], ⟨⟩⟩
theorem c_spec_Hash (l : List Int) (hl : l.length ≤ 16777216) : Sound ty Try.prog 58 [.a (.sl .int l)] [.a (.lit (.int .i64 (hsh l)))] := by
  refine Sound.of X Try.call58 Try.func58 rfl rfl (by decide) Try.ntmps58 (by simp) ?_
  intro zb
  refine W.seq ?_
  refine W.reg X [] [] [0] [] rfl ⟨⟩ ?_
  refine W.seq ?_
  refine W.reg X [] [] [0, 3] [] rfl ⟨⟩ ?_
  refine W.seq ?_
  refine W.seq ?_
  refine W.reg X [] [] [0, 3, 4] [] rfl ⟨⟩ ?_
  refine W.block ?_
  refine W.loopO (fun k => k ≤ l.length) (fun k : Nat => [(3, .one (.a (.lit (.int .i64 (hsh (l.take k)))))), (4, .one (.a (.lit (.int .i64 k))))]) (fun k => []) (fun k => l.length - k) 0 (fun k => rfl) (Nat.zero_le _) rfl ?_
  intro k hk
  refine W.seq ?_
  refine W.seq ?_
  refine W.reg X [] [] [0, 3, 4, 8] [] rfl ⟨⟩ ?_
  refine W.cond rfl (fun hb0 => ?_) (fun hb0 => ?_)
  · try simp only [nb, inr_t, inr_f, isEmpty_t] at hb0
    have hs := hsh_step l k hb0
    refine W.skip ?_
    refine W.seq ?_
    refine W.block ?_
    refine W.reg X [] [(17, ⟨false, [.a (.lit (.int .i64 _))]⟩)] [0, 3, 4] [] rfl (by (repeat' (first | with_reducible exact AllP.nil | with_reducible refine AllP.mk ?_ ?_ | with_reducible apply And.intro)) <;> skip; (iterate 1 (all_goals try (first | exact (c_spec_Mod _ _ (by first | assumption | omega | (simp; done) | (simp; omega)) (by first | assumption | omega | (simp; done) | (simp; omega)))))); all_goals (first | (intros; omega))) ?_
    refine W.reg X [] [] [0, 3, 4] [] rfl ⟨⟩ ?_
    refine ⟨k + 1, by omega, by omega, ?_⟩
    rw [wadd _ k rfl (by omega), hs]
    try rfl
  · try simp only [nb, inr_t, inr_f, isEmpty_t] at hb0
    refine W.exit ?_
    refine W.seq ?_
    refine W.reg X [] [] [2] [] rfl ⟨⟩ ?_
    refine W.ret ?_
    exact Fin.ret rfl ⟨by rw [List.take_of_length_le hb0], ⟨⟩⟩
theorem c_slices_Concat_int_int (l : List (List Int)) (hl : l.length ≤ 1048576) (hs0 : (l.map List.length).sum ≤ 1099511627776) : Sound ty Try.prog 70 [.a (.sl (.sl .int) l)] [.a (.sl .int l.flatten)] := by
  refine Sound.of X Try.call70 Try.func70 rfl rfl (by decide) Try.ntmps70 (by simp) ?_
  intro zb
  refine W.seq ?_
  refine W.reg X [] [] [0] [] rfl ⟨⟩ ?_
  refine W.seq ?_
  refine W.reg X [] [] [0, 3] [] rfl ⟨⟩ ?_
  refine W.seq ?_
  refine W.seq ?_
  refine W.reg X [] [] [0, 3, 9, 10, 11] [] rfl ⟨⟩ ?_
  refine W.block ?_
  refine W.loopO (fun k => k ≤ l.length) (fun k : Nat => [(3, .one (.a (.lit (.int .i64 ((l.take k).map List.length).sum)))), (11, .one (.a (.lit (.int .i64 k))))]) (fun k => []) (fun k => l.length - k) 0 (fun k => rfl) (Nat.zero_le _) rfl ?_
  intro k hk
  have hle := take_sum_le l List.length k
  refine W.seq ?_
  refine W.reg X [] [] [0, 3, 9, 10, 11, 12] [] rfl ⟨⟩ ?_
  refine W.seq ?_
  refine W.cond rfl (fun hb0 => ?_) (fun hb0 => ?_)
  · try simp only [nb, inr_t, inr_f, isEmpty_t] at hb0
    have hs := lensum_step l (dfl (.sl .int)) k hb0
    have hle2 := take_sum_le l List.length (k + 1)
    rw [hs] at hle2
    refine W.skip ?_
    refine W.seq ?_
    refine W.block ?_
    refine W.seq ?_
    refine W.reg X [] [] [0, 3, 5, 9, 10, 11] [] rfl (by (repeat' (first | exact True.intro | apply And.intro)) <;> first | (intros; omega)) ?_
    refine W.seq ?_
    refine W.reg X [] [] [0, 3, 9, 10, 11] [] rfl (by (repeat' (first | exact True.intro | apply And.intro))) ?_
    refine W.seq ?_
    refine W.reg X [] [] [0, 3, 9, 10, 11, 20] [] rfl ⟨⟩ ?_
    refine W.cond rfl (fun hb1 => ?_) (fun hb1 => ?_)
    · try simp only [nb, inr_t, inr_f, isEmpty_t] at hb1
      rw [i64w (by omega)] at hb1
      omega
    · try simp only [nb, inr_t, inr_f, isEmpty_t] at hb1
      refine W.skip ?_
      refine W.reg X [] [] [0, 3, 9, 10, 11] [] rfl ⟨⟩ ?_
      refine ⟨k + 1, by omega, by omega, ?_⟩
      rw [wadd _ k rfl (by omega), hs]
      rw [i64w (by simp only [Int.toNat_natCast]; omega)]
      try rfl
  · try simp only [nb, inr_t, inr_f, isEmpty_t] at hb0
    rw [List.take_of_length_le hb0]
    refine W.exit ?_
    refine W.seq ?_
    refine W.reg X [] [(24, ⟨true, [.a (.sl .int [])]⟩), (300024, ⟨true, []⟩)] [0, 6] [] rfl (by (repeat' (first | with_reducible exact AllP.nil | with_reducible refine AllP.mk ?_ ?_ | with_reducible apply And.intro)) <;> skip; (iterate 1 (all_goals try (first | exact (c_slices_Grow_int_int _ hs0))))) ?_
    refine W.seq ?_
    refine W.seq ?_
    refine W.reg X [] [] [6, 25, 26, 27] [] rfl ⟨⟩ ?_
    refine W.block ?_
    refine W.loopO (fun k1 => k1 ≤ l.length) (fun k1 : Nat => [(27, .one (.a (.lit (.int .i64 k1))))]) (fun k1 => [(24, .arr .int (l.take k1).flatten)]) (fun k1 => l.length - k1) 0 (fun k1 => rfl) (Nat.zero_le _) rfl ?_
    intro k1 hk1
    have hle1 := flatten_len l k1
    refine W.seq ?_
    refine W.reg X [] [] [6, 25, 26, 27, 28] [] rfl ⟨⟩ ?_
    refine W.seq ?_
    refine W.cond rfl (fun hb2 => ?_) (fun hb2 => ?_)
    · try simp only [nb, inr_t, inr_f, isEmpty_t] at hb2
      have hs1 := flatten_step l (dfl (.sl .int)) k1 hb2
      have hle2 := flatten_len l (k1 + 1)
      rw [hs1, List.length_append] at hle2
      refine W.skip ?_
      refine W.seq ?_
      refine W.block ?_
      refine W.seq ?_
      refine W.reg X [] [] [6, 8, 25, 26, 27] [] rfl (by (repeat' (first | exact True.intro | apply And.intro)) <;> first | (intros; omega)) ?_
      refine W.reg X [(33, 24)] [] [6, 25, 26, 27] [] rfl (by (repeat' (first | exact True.intro | apply And.intro)) <;> first | exact rfl | (simp only [byt, maxLen, lens]; omega)) ?_
      refine W.reg X [] [] [6, 25, 26, 27] [] rfl ⟨⟩ ?_
      refine ⟨k1 + 1, by omega, by omega, ?_⟩
      rw [wadd _ k1 rfl (by omega), hs1]
      try rfl
    · try simp only [nb, inr_t, inr_f, isEmpty_t] at hb2
      refine W.exit ?_
      refine W.seq ?_
      refine W.reg X [] [] [2] [] rfl ⟨⟩ ?_
      refine W.ret ?_
      exact Fin.ret rfl ⟨by rw [List.take_of_length_le hb2], ⟨⟩⟩
theorem c_impl_KeyedHash (k : Int) (l : List Int) (hl : l.length ≤ 1048576) : Sound ty Try.prog 48 [.a (.lit (.int .i64 k)), .a (.sl .int l)] [.a (.lit (.int .i64 (kh k l)))] := by
  refine Sound.of X Try.call48 Try.func48 rfl rfl (by decide) Try.ntmps48 (by simp) ?_
  intro zb
  refine W.seq ?_
  refine W.reg X [] [] [0, 1] [] rfl ⟨⟩ ?_
  refine W.seq ?_
  refine W.reg X [] [(11, ⟨true, [.a (.sl .int [[k], l, [k]].flatten)]⟩), (12, ⟨false, [.a (.lit (.int .i64 (hsh [[k], l, [k]].flatten)))]⟩)] [4] [] rfl (by (repeat' (first | with_reducible exact AllP.nil | with_reducible refine AllP.mk ?_ ?_ | with_reducible apply And.intro)) <;> skip; (iterate 2 (all_goals try (first | exact (c_slices_Concat_int_int _ (by simp) (by simp; omega)) | exact (c_impl_Hash _ (by simp; omega))))); all_goals (first | exact rfl | exact ⟨rfl, El_all _ (by decide)⟩)) ?_
  refine W.ret ?_
  exact Fin.ret rfl ⟨rfl, ⟨⟩⟩
theorem c_spec_KeyedHash (k : Int) (l : List Int) (hl : l.length ≤ 1048576) : Sound ty Try.prog 38 [.a (.lit (.int .i64 k)), .a (.sl .int l)] [.a (.lit (.int .i64 (kh k l)))] := by
  refine Sound.of X Try.call38 Try.func38 rfl rfl (by decide) Try.ntmps38 (by simp) ?_
  intro zb
  refine W.seq ?_
  refine W.reg X [] [] [0, 1] [] rfl ⟨⟩ ?_
  refine W.seq ?_
  refine W.reg X [(8, 6), (11, 6)] [(12, ⟨false, [.a (.lit (.int .i64 (hsh ([k] ++ l ++ [k]))))]⟩)] [4] [] rfl (by (repeat' (first | with_reducible exact AllP.nil | with_reducible refine AllP.mk ?_ ?_ | with_reducible apply And.intro)) <;> skip; (iterate 1 (all_goals try (first | exact (c_spec_Hash _ (by simp; omega))))); all_goals (first | exact rfl | exact ⟨rfl, El_all _ (by decide)⟩ | (simp only [byt, maxLen, lens]; omega))) ?_
  refine W.ret ?_
  exact Fin.ret rfl ⟨rfl, ⟨⟩⟩
theorem c_impl_orOne (n : Int) : Sound ty Try.prog 77 [.a (.lit (.int .i64 n))] [.a (.lit (.int .i64 (or1 n)))] := by
  refine Sound.of X Try.call77 Try.func77 rfl rfl (by decide) Try.ntmps77 (by simp) ?_
  intro zb
  refine W.seq ?_
  refine W.reg X [] [] [0] [] rfl ⟨⟩ ?_
  refine W.seq ?_
  refine W.seq ?_
  refine W.reg X [] [] [0, 4] [] rfl ⟨⟩ ?_
  refine W.cond rfl (fun hb0 => ?_) (fun hb0 => ?_)
  · try simp only [nb, inr_t, inr_f, isEmpty_t] at hb0
    refine W.seq ?_
    refine W.reg X [] [] [2] [] rfl ⟨⟩ ?_
    refine W.ret ?_
    exact Fin.ret rfl ⟨by rw [or1, if_pos hb0], ⟨⟩⟩
  · try simp only [nb, inr_t, inr_f, isEmpty_t] at hb0
    refine W.skip ?_
    refine W.seq ?_
    refine W.reg X [] [] [2] [] rfl ⟨⟩ ?_
    refine W.ret ?_
    exact Fin.ret rfl ⟨by rw [or1, if_neg (by simpa using hb0)], ⟨⟩⟩
theorem c_spec_Max (a b : Int) : Sound ty Try.prog 65 [.a (.lit (.int .i64 a)), .a (.lit (.int .i64 b))] [.a (.lit (.int .i64 (if b > a then b else a)))] := by
  refine Sound.of X Try.call65 Try.func65 rfl rfl (by decide) Try.ntmps65 (by simp) ?_
  intro zb
  refine W.seq ?_
  refine W.reg X [] [] [0, 1] [] rfl ⟨⟩ ?_
  refine W.seq ?_
  refine W.seq ?_
  refine W.reg X [] [] [0, 1, 7] [] rfl ⟨⟩ ?_
  refine W.cond rfl (fun hb0 => ?_) (fun hb0 => ?_)
  · try simp only [nb, inr_t, inr_f, isEmpty_t] at hb0
    refine W.seq ?_
    refine W.reg X [] [] [4] [] rfl ⟨⟩ ?_
    refine W.ret ?_
    exact Fin.ret rfl ⟨by rw [if_pos (by omega)], ⟨⟩⟩
  · try simp only [nb, inr_t, inr_f, isEmpty_t] at hb0
    refine W.skip ?_
    refine W.seq ?_
    refine W.reg X [] [] [4] [] rfl ⟨⟩ ?_
    refine W.ret ?_
    exact Fin.ret rfl ⟨by rw [if_neg (by omega)], ⟨⟩⟩
theorem c_impl_ChildSeed (s k : Int) : Sound ty Try.prog 47 [.a (.lit (.int .i64 s)), .a (.lit (.int .i64 k))] [.a (.lit (.int .i64 (cs s k)))] := by
  refine Sound.of X Try.call47 Try.func47 rfl rfl (by decide) Try.ntmps47 (by simp) ?_
  intro zb
  refine W.seq ?_
  refine W.reg X [] [] [0, 1] [] rfl ⟨⟩ ?_
  refine W.seq ?_
  refine W.reg X [] [(9, ⟨false, [.a (.lit (.int .i64 _))]⟩)] [5] [] rfl (by (repeat' (first | with_reducible exact AllP.nil | with_reducible refine AllP.mk ?_ ?_ | with_reducible apply And.intro)) <;> skip; (iterate 1 (all_goals try (first | exact (c_impl_KeyedHash _ _ (by first | assumption | omega | (simp; done) | (simp; omega)))))); all_goals (first | exact ⟨rfl, El_all _ (by decide)⟩)) ?_
  refine W.seq ?_
  refine W.reg X [] [] [4] [] rfl (by (repeat' (first | exact True.intro | apply And.intro)) <;> first | (intros; omega)) ?_
  refine W.ret ?_
  exact Fin.ret rfl ⟨by rw [cs_eq (kh_range _ _).1 (kh_range _ _).2]; rfl, ⟨⟩⟩
theorem c_impl_StreamBytes (s n : Int) (h0 : 0 ≤ n) (h1 : n ≤ 400) : Sound ty Try.prog 73 [.a (.lit (.int .i64 s)), .a (.lit (.int .i64 n))] [.a (.sl .u8 (stream s n.toNat))] := by
  refine Sound.of X Try.call73 Try.func73 rfl rfl (by decide) Try.ntmps73 (by simp) ?_
  intro zb
  refine W.seq ?_
  refine W.reg X [] [] [0, 1] [] rfl ⟨⟩ ?_
  refine W.seq ?_
  refine W.seq ?_
  refine W.reg X [] [(8, ⟨false, [.a (.lit (.bool _))]⟩)] [0, 1, 9] [] rfl (by (repeat' (first | with_reducible exact AllP.nil | with_reducible refine AllP.mk ?_ ?_ | with_reducible apply And.intro)) <;> skip; (iterate 1 (all_goals try (first | exact (c_impl_InRange _ _ _))))) ?_
  refine W.cond rfl (fun hb0 => ?_) (fun hb0 => ?_)
  · try simp only [nb, inr_t, inr_f, isEmpty_t] at hb0
    omega
  · try simp only [nb, inr_t, inr_f, isEmpty_t] at hb0
    refine W.skip ?_
    refine W.seq ?_
    refine W.reg X [] [] [0, 1, 5] [] rfl (by (repeat' (first | exact True.intro | apply And.intro)) <;> first | exact rfl) ?_
    refine W.seq ?_
    refine W.seq ?_
    refine W.reg X [] [] [0, 5, 11, 12] [] rfl ⟨⟩ ?_
    refine W.block ?_
    refine W.loopO (fun k => k ≤ n.toNat) (fun k : Nat => [(12, .one (.a (.lit (.int .i64 k))))]) (fun k => [(10, .arr .u8 (stream s k))]) (fun k => n.toNat - k) 0 (fun k => rfl) (Nat.zero_le _) rfl ?_
    intro k hk
    have hle := stream_len s k
    refine W.seq ?_
    refine W.reg X [] [] [0, 5, 11, 12, 13] [] rfl ⟨⟩ ?_
    refine W.seq ?_
    refine W.cond rfl (fun hb1 => ?_) (fun hb1 => ?_)
    · try simp only [nb, inr_t, inr_f, isEmpty_t] at hb1
      have hs := stream_step s k (by omega)
      refine W.skip ?_
      refine W.seq ?_
      refine W.block ?_
      refine W.seq ?_
      refine W.reg X [] [] [0, 5, 6, 11, 12] [] rfl ⟨⟩ ?_
      refine W.reg X [(23, 10)] [(19, ⟨false, [.a (.lit (.int .i64 _))]⟩)] [0, 5, 11, 12] [] rfl (by (repeat' (first | with_reducible exact AllP.nil | with_reducible refine AllP.mk ?_ ?_ | with_reducible apply And.intro)) <;> skip; (iterate 1 (all_goals try (first | exact (c_impl_ChildSeed _ _)))); all_goals (first | (intros; omega) | exact rfl | exact ⟨rfl, El_all _ (by decide)⟩ | exact (u8w _).1 | exact (u8w _).2 | (simp only [byt, maxLen, lens]; omega))) ?_
      refine W.reg X [] [] [0, 5, 11, 12] [] rfl ⟨⟩ ?_
      refine ⟨k + 1, by omega, by omega, ?_⟩
      rw [wadd _ k rfl (by omega), hs]
      try rfl
    · try simp only [nb, inr_t, inr_f, isEmpty_t] at hb1
      refine W.exit ?_
      refine W.seq ?_
      refine W.reg X [] [] [4] [] rfl ⟨⟩ ?_
      refine W.ret ?_
      exact Fin.ret rfl ⟨by rw [show k = n.toNat by omega], ⟨⟩⟩
theorem c_spec_ChildSeed (s k : Int) : Sound ty Try.prog 37 [.a (.lit (.int .i64 s)), .a (.lit (.int .i64 k))] [.a (.lit (.int .i64 (cs s k)))] := by
  refine Sound.of X Try.call37 Try.func37 rfl rfl (by decide) Try.ntmps37 (by simp) ?_
  intro zb
  refine W.seq ?_
  refine W.reg X [] [] [0, 1] [] rfl ⟨⟩ ?_
  refine W.seq ?_
  refine W.reg X [] [(9, ⟨false, [.a (.lit (.int .i64 _))]⟩)] [5] [] rfl (by (repeat' (first | with_reducible exact AllP.nil | with_reducible refine AllP.mk ?_ ?_ | with_reducible apply And.intro)) <;> skip; (iterate 1 (all_goals try (first | exact (c_spec_KeyedHash _ _ (by first | assumption | omega | (simp; done) | (simp; omega)))))); all_goals (first | exact ⟨rfl, El_all _ (by decide)⟩)) ?_
  refine W.seq ?_
  refine W.reg X [] [] [4] [] rfl (by (repeat' (first | exact True.intro | apply And.intro)) <;> first | (intros; omega)) ?_
  refine W.ret ?_
  exact Fin.ret rfl ⟨by rw [cs_eq (kh_range _ _).1 (kh_range _ _).2]; rfl, ⟨⟩⟩
theorem c_spec_StreamBytes (s n : Int) (h0 : 0 ≤ n) (h1 : n ≤ 400) : Sound ty Try.prog 61 [.a (.lit (.int .i64 s)), .a (.lit (.int .i64 n))] [.a (.sl .u8 (stream s n.toNat))] := by
  refine Sound.of X Try.call61 Try.func61 rfl rfl (by decide) Try.ntmps61 (by simp) ?_
  intro zb
  refine W.seq ?_
  refine W.reg X [] [] [0, 1] [] rfl ⟨⟩ ?_
  refine W.seq ?_
  refine W.reg X [] [] [0, 1, 5] [] rfl (by (repeat' (first | exact True.intro | apply And.intro)) <;> first | exact rfl) ?_
  refine W.seq ?_
  refine W.seq ?_
  refine W.reg X [] [] [0, 1, 5, 6] [] rfl ⟨⟩ ?_
  refine W.block ?_
  refine W.loopO (fun k => k ≤ n.toNat) (fun k : Nat => [(6, .one (.a (.lit (.int .i64 k))))]) (fun k => [(7, .arr .u8 (stream s k))]) (fun k => n.toNat - k) 0 (fun k => rfl) (Nat.zero_le _) rfl ?_
  intro k hk
  have hle := stream_len s k
  refine W.seq ?_
  refine W.seq ?_
  refine W.reg X [] [] [0, 1, 5, 6, 14] [] rfl ⟨⟩ ?_
  refine W.cond rfl (fun hb0 => ?_) (fun hb0 => ?_)
  · try simp only [nb, inr_t, inr_f, isEmpty_t] at hb0
    have hs := stream_step s k (by omega)
    refine W.skip ?_
    refine W.seq ?_
    refine W.block ?_
    refine W.reg X [(25, 7)] [(21, ⟨false, [.a (.lit (.int .i64 _))]⟩)] [0, 1, 5, 6] [] rfl (by (repeat' (first | with_reducible exact AllP.nil | with_reducible refine AllP.mk ?_ ?_ | with_reducible apply And.intro)) <;> skip; (iterate 1 (all_goals try (first | exact (c_spec_ChildSeed _ _)))); all_goals (first | (intros; omega) | exact rfl | exact ⟨rfl, El_all _ (by decide)⟩ | exact (u8w _).1 | exact (u8w _).2 | (simp only [byt, maxLen, lens]; omega))) ?_
    refine W.reg X [] [] [0, 1, 5, 6] [] rfl ⟨⟩ ?_
    refine ⟨k + 1, by omega, by omega, ?_⟩
    rw [wadd _ k rfl (by omega), hs]
    try rfl
  · try simp only [nb, inr_t, inr_f, isEmpty_t] at hb0
    refine W.exit ?_
    refine W.seq ?_
    refine W.reg X [] [] [4] [] rfl ⟨⟩ ?_
    refine W.ret ?_
    exact Fin.ret rfl ⟨by rw [show k = n.toNat by omega], ⟨⟩⟩
end Go.Proofs.Ythejghgjejhgoaa.G
namespace Go.Proofs.Ythejghgjejhgoaa.G
set_option linter.all false
open Go.RowKit L D
set_option maxRecDepth 100000
theorem c_slices_Clone_byte_byte (l : List UInt8) (hl : l.length ≤ 1048576) : Sound ty Try.prog 46 [.a (.sl .u8 l)] [.a (.sl .u8 l)] := by
  refine Sound.of X Try.call46 Try.func46 rfl rfl (by decide) Try.ntmps46 (by simp) ?_
  intro zb
  refine W.seq ?_
  refine W.reg X [] [] [0] [] rfl ⟨⟩ ?_
  refine W.seq ?_
  refine W.seq ?_
  refine W.isNil X [] [] [0, 4] rfl (by (repeat' (first | exact True.intro | apply And.intro))) (fun hn1 => ?_) ?_
  · skip
    refine W.cond rfl (fun _ => ?_) (fun hb => absurd hb (by decide))
    refine W.seq ?_
    refine W.reg X [] [] [2] [] rfl ⟨⟩ ?_
    refine W.ret ?_
    exact Fin.ret rfl ⟨hn1, ⟨⟩⟩
  · skip
    refine W.cond rfl (fun hb => absurd hb (by decide)) (fun _ => ?_)
    refine W.skip ?_
    refine W.seq ?_
    refine W.reg X [(7, 5)] [] [2] [] rfl (by (repeat' (first | exact True.intro | apply And.intro)) <;> first | exact rfl | (simp only [byt, maxLen, lens]; omega)) ?_
    refine W.ret ?_
    exact Fin.ret rfl ⟨rfl, ⟨⟩⟩
theorem c_impl_Encrypt (s : Int) (l : List UInt8) (hl : l.length ≤ 1048576) : Sound ty Try.prog 74 [.a (.lit (.int .i64 s)), .a (.sl .u8 l)] [.a (.sl .u8 (encr s l))] := by
  refine Sound.of X Try.call74 Try.func74 rfl rfl (by decide) Try.ntmps74 (by simp) ?_
  intro zb
  refine W.seq ?_
  refine W.reg X [] [] [0, 1] [] rfl ⟨⟩ ?_
  refine W.seq ?_
  refine W.reg X [] [(8, ⟨true, [.a (.sl .u8 _)]⟩)] [0, 5] [] rfl (by (repeat' (first | with_reducible exact AllP.nil | with_reducible refine AllP.mk ?_ ?_ | with_reducible apply And.intro)) <;> skip; (iterate 1 (all_goals try (first | exact (c_slices_Clone_byte_byte _ (by first | assumption | omega | (simp; done) | (simp; omega))))))) ?_
  refine W.seq ?_
  refine W.seq ?_
  refine W.reg X [] [] [0, 5, 10, 11] [] rfl ⟨⟩ ?_
  refine W.block ?_
  refine W.loopO (fun k => k ≤ l.length) (fun k : Nat => [(11, .one (.a (.lit (.int .i64 k))))]) (fun k => [(8, .arr .u8 ((encr s l).take k ++ l.drop k))]) (fun k => l.length - k) 0 (fun k => rfl) (Nat.zero_le _) rfl ?_
  intro k hk
  have hle := part_len (encr s l) l k (encr_len s l) hk
  refine W.seq ?_
  refine W.reg X [] [] [0, 5, 10, 11, 12] [] rfl ⟨⟩ ?_
  refine W.seq ?_
  refine W.cond rfl (fun hb0 => ?_) (fun hb0 => ?_)
  · try simp only [nb, inr_t, inr_f, isEmpty_t] at hb0
    have hs := encr_impl s l k hb0
    refine W.skip ?_
    refine W.seq ?_
    refine W.block ?_
    refine W.seq ?_
    refine W.reg X [] [] [0, 5, 6, 10, 11] [] rfl ⟨⟩ ?_
    refine W.draw X [] [(21, ⟨false, [.a (.lit (.int .i64 _))]⟩)] [0, 5, 10, 11] [] 12 MO (by kernel_rfl) rfl (by (repeat' (first | with_reducible exact AllP.nil | with_reducible refine AllP.mk ?_ ?_ | with_reducible apply And.intro)) <;> skip; (iterate 1 (all_goals try (first | exact (c_impl_KeyedHash _ _ (by first | assumption | omega | (simp; done) | (simp; omega)))))); all_goals (first | (intros; omega) | exact ⟨rfl, El_all _ (by decide)⟩ | exact (u8w _).1 | exact (u8w _).2)) ?_
    refine W.reg X [] [] [0, 5, 10, 11] [] rfl ⟨⟩ ?_
    refine ⟨k + 1, by omega, by omega, ?_⟩
    rw [wadd _ k rfl (by omega), hs]
    try rfl
  · try simp only [nb, inr_t, inr_f, isEmpty_t] at hb0
    refine W.exit ?_
    refine W.seq ?_
    refine W.reg X [] [] [4] [] rfl ⟨⟩ ?_
    refine W.ret ?_
    exact Fin.ret rfl ⟨by rw [inplace_done _ _ _ (encr_len s l) hb0], ⟨⟩⟩
theorem c_impl_IsValidKey (k : Int) : Sound ty Try.prog 71 [.a (.lit (.int .i64 k))] [.a (.lit (.bool (okKey k)))] := by
  refine Sound.of X Try.call71 Try.func71 rfl rfl (by decide) Try.ntmps71 (by simp) ?_
  intro zb
  refine W.seq ?_
  refine W.reg X [] [] [0] [] rfl ⟨⟩ ?_
  refine W.seq ?_
  refine W.reg X [] [(4, ⟨false, [.a (.lit (.bool _))]⟩)] [2] [] rfl (by (repeat' (first | with_reducible exact AllP.nil | with_reducible refine AllP.mk ?_ ?_ | with_reducible apply And.intro)) <;> skip; (iterate 1 (all_goals try (first | exact (c_impl_InRange _ _ _))))) ?_
  refine W.ret ?_
  exact Fin.ret rfl ⟨rfl, ⟨⟩⟩
theorem c_impl_IsValidPlain (p : Plain) : Sound ty Try.prog 72 [.agg (dec_Plain p)] [.a (.lit (.bool (okPlain p)))] := by
  refine Sound.of X Try.call72 Try.func72 rfl rfl (by decide) Try.ntmps72 (by simp) ?_
  intro zb
  refine W.seq ?_
  refine W.reg X [] [] [1] [] rfl ⟨⟩ ?_
  refine W.seq ?_
  refine W.reg X [] [(5, ⟨false, [.a (.lit (.bool _))]⟩)] [2] [] rfl (by (repeat' (first | with_reducible exact AllP.nil | with_reducible refine AllP.mk ?_ ?_ | with_reducible apply And.intro)) <;> skip; (iterate 1 (all_goals try (first | exact (c_impl_InRange _ _ _))))) ?_
  refine W.ret ?_
  exact Fin.ret rfl ⟨by unfold okPlain; cases inr p.kind 0 3 <;> rfl, ⟨⟩⟩
theorem c_impl_CellCheck (key c : Int) (l : List UInt8) (hl : l.length ≤ 65536) : Sound ty Try.prog 90 [.a (.lit (.int .i64 key)), .a (.lit (.int .i64 c)), .a (.sl .u8 l)] [.a (.lit (.int .i64 (ccheck key c l)))] := by
  refine Sound.of X Try.call90 Try.func90 rfl rfl (by decide) Try.ntmps90 (by simp) ?_
  intro zb
  refine W.seq ?_
  refine W.reg X [] [] [0, 1, 2] [] rfl ⟨⟩ ?_
  refine W.seq ?_
  refine W.reg X [] [] [0, 2, 7] [] rfl (by (repeat' (first | exact True.intro | apply And.intro)) <;> first | exact rfl) ?_
  refine W.seq ?_
  refine W.seq ?_
  refine W.reg X [] [] [0, 7, 12, 13, 14] [] rfl ⟨⟩ ?_
  refine W.block ?_
  refine W.loopO (fun k => k ≤ l.length) (fun k : Nat => [(14, .one (.a (.lit (.int .i64 k))))]) (fun k => [(11, .arr .int ([71, c] ++ (l.take k).map (fun x => (x.toNat : Int))))]) (fun k => l.length - k) 0 (fun k => rfl) (Nat.zero_le _) rfl ?_
  intro k hk
  refine W.seq ?_
  refine W.reg X [] [] [0, 7, 12, 13, 14, 15] [] rfl ⟨⟩ ?_
  refine W.seq ?_
  refine W.cond rfl (fun hb0 => ?_) (fun hb0 => ?_)
  · try simp only [nb, inr_t, inr_f, isEmpty_t] at hb0
    have hs := cc_step l c k hb0
    refine W.skip ?_
    refine W.seq ?_
    refine W.block ?_
    refine W.seq ?_
    refine W.reg X [] [] [0, 7, 9, 12, 13, 14] [] rfl (by (repeat' (first | exact True.intro | apply And.intro)) <;> first | (intros; omega)) ?_
    refine W.reg X [(22, 11)] [] [0, 7, 12, 13, 14] [] rfl (by (repeat' (first | exact True.intro | apply And.intro)) <;> first | exact rfl | (simp only [byt, maxLen, lens]; omega)) ?_
    refine W.reg X [] [] [0, 7, 12, 13, 14] [] rfl ⟨⟩ ?_
    refine ⟨k + 1, by omega, by omega, ?_⟩
    rw [wadd _ k rfl (by omega), hs]
    try rfl
  · try simp only [nb, inr_t, inr_f, isEmpty_t] at hb0
    refine W.exit ?_
    refine W.seq ?_
    refine W.reg X [] [(26, ⟨false, [.a (.lit (.int .i64 _))]⟩)] [6] [] rfl (by (repeat' (first | with_reducible exact AllP.nil | with_reducible refine AllP.mk ?_ ?_ | with_reducible apply And.intro)) <;> skip; (iterate 1 (all_goals try (first | exact (c_impl_KeyedHash _ _ (by first | assumption | omega | (simp; done) | (simp; omega))))))) ?_
    refine W.ret ?_
    exact Fin.ret rfl ⟨by rw [List.take_of_length_le hb0]; rfl, ⟨⟩⟩
theorem c_impl_MailboxRow (key r d n : Int) : Sound ty Try.prog 25 [.a (.lit (.int .i64 key)), .a (.lit (.int .i64 r)), .a (.lit (.int .i64 d)), .a (.lit (.int .i64 n))] [.a (.lit (.int .i64 (mrow key r d n)))] := by
  refine Sound.of X Try.call25 Try.func25 rfl rfl (by decide) Try.ntmps25 (by simp) ?_
  intro zb
  refine W.seq ?_
  refine W.reg X [] [] [0, 1, 2, 3] [] rfl ⟨⟩ ?_
  refine W.seq ?_
  refine W.seq ?_
  refine W.reg X [] [(10, ⟨false, [.a (.lit (.bool _))]⟩), (14, ⟨false, [.a (.lit (.bool _))]⟩)] [0, 1, 2, 3, 16] [] rfl (by (repeat' (first | with_reducible exact AllP.nil | with_reducible refine AllP.mk ?_ ?_ | with_reducible apply And.intro)) <;> skip; (iterate 1 (all_goals try (first | exact (c_impl_InRange _ _ _) | exact fun _ => (c_impl_InRange _ _ _))))) ?_
  refine W.cond rfl (fun hb0 => ?_) (fun hb0 => ?_)
  · try simp only [nb, inr_t, inr_f, isEmpty_t] at hb0
    refine W.seq ?_
    refine W.reg X [] [] [8] [] rfl ⟨⟩ ?_
    refine W.ret ?_
    exact Fin.ret rfl ⟨by rw [mrow, if_neg (by omega)], ⟨⟩⟩
  · try simp only [nb, inr_t, inr_f, isEmpty_t] at hb0
    have hcs := cs_range (kh key [79, r, d]) 0
    refine W.skip ?_
    refine W.seq ?_
    refine W.reg X [] [(21, ⟨false, [.a (.lit (.int .i64 _))]⟩), (22, ⟨false, [.a (.lit (.int .i64 _))]⟩)] [8] [] rfl (by (repeat' (first | with_reducible exact AllP.nil | with_reducible refine AllP.mk ?_ ?_ | with_reducible apply And.intro)) <;> skip; (iterate 2 (all_goals try (first | exact (c_impl_KeyedHash _ _ (by first | assumption | omega | (simp; done) | (simp; omega))) | exact (c_impl_ChildSeed _ _)))); all_goals (first | (intros; omega) | exact ⟨rfl, El_all _ (by decide)⟩)) ?_
    refine W.ret ?_
    exact Fin.ret rfl ⟨by rw [mrow, if_pos (by omega), tmod_pos hcs.1], ⟨⟩⟩
theorem c_spec_Encrypt (s : Int) (l : List UInt8) (hl : l.length ≤ 1048576) : Sound ty Try.prog 62 [.a (.lit (.int .i64 s)), .a (.sl .u8 l)] [.a (.sl .u8 (encr s l))] := by
  refine Sound.of X Try.call62 Try.func62 rfl rfl (by decide) Try.ntmps62 (by simp) ?_
  intro zb
  refine W.seq ?_
  refine W.reg X [] [] [0, 1] [] rfl ⟨⟩ ?_
  refine W.seq ?_
  refine W.reg X [] [] [0, 1, 5] [] rfl (by (repeat' (first | exact True.intro | apply And.intro)) <;> first | exact rfl) ?_
  refine W.seq ?_
  refine W.seq ?_
  refine W.reg X [] [] [0, 1, 5, 6] [] rfl ⟨⟩ ?_
  refine W.block ?_
  refine W.loopO (fun k => k ≤ l.length) (fun k : Nat => [(6, .one (.a (.lit (.int .i64 k))))]) (fun k => [(7, .arr .u8 ((encr s l).take k))]) (fun k => l.length - k) 0 (fun k => rfl) (Nat.zero_le _) rfl ?_
  intro k hk
  have hle := take_le_len (encr s l) k
  refine W.seq ?_
  refine W.seq ?_
  refine W.reg X [] [] [0, 1, 5, 6, 11] [] rfl ⟨⟩ ?_
  refine W.cond rfl (fun hb0 => ?_) (fun hb0 => ?_)
  · try simp only [nb, inr_t, inr_f, isEmpty_t] at hb0
    have hs := encr_spec s l k hb0
    refine W.skip ?_
    refine W.seq ?_
    refine W.block ?_
    refine W.draw X [(29, 7)] [(23, ⟨false, [.a (.lit (.int .i64 _))]⟩)] [0, 1, 5, 6] [] 15 MO (by kernel_rfl) rfl (by (repeat' (first | with_reducible exact AllP.nil | with_reducible refine AllP.mk ?_ ?_ | with_reducible apply And.intro)) <;> skip; (iterate 1 (all_goals try (first | exact (c_spec_KeyedHash _ _ (by first | assumption | omega | (simp; done) | (simp; omega)))))); all_goals (first | (intros; omega) | exact rfl | exact ⟨rfl, El_all _ (by decide)⟩ | exact (u8w _).1 | exact (u8w _).2 | (simp only [byt, maxLen, lens]; omega))) ?_
    refine W.reg X [] [] [0, 1, 5, 6] [] rfl ⟨⟩ ?_
    refine ⟨k + 1, by omega, by omega, ?_⟩
    rw [wadd _ k rfl (by omega), hs]
    try rfl
  · try simp only [nb, inr_t, inr_f, isEmpty_t] at hb0
    refine W.exit ?_
    refine W.seq ?_
    refine W.reg X [] [] [4] [] rfl ⟨⟩ ?_
    refine W.ret ?_
    exact Fin.ret rfl ⟨by rw [List.take_of_length_le (by rw [encr_len]; exact hb0)], ⟨⟩⟩
theorem c_spec_IsValidKey (k : Int) : Sound ty Try.prog 59 [.a (.lit (.int .i64 k))] [.a (.lit (.bool (okKey k)))] := by
  refine Sound.of X Try.call59 Try.func59 rfl rfl (by decide) Try.ntmps59 (by simp) ?_
  intro zb
  refine W.seq ?_
  refine W.reg X [] [] [0] [] rfl ⟨⟩ ?_
  refine W.seq ?_
  refine W.reg X [] [(4, ⟨false, [.a (.lit (.bool _))]⟩)] [2] [] rfl (by (repeat' (first | with_reducible exact AllP.nil | with_reducible refine AllP.mk ?_ ?_ | with_reducible apply And.intro)) <;> skip; (iterate 1 (all_goals try (first | exact (c_spec_l1In _ _ _))))) ?_
  refine W.ret ?_
  exact Fin.ret rfl ⟨rfl, ⟨⟩⟩
theorem c_spec_IsValidPlain (p : Plain) : Sound ty Try.prog 60 [.agg (dec_Plain p)] [.a (.lit (.bool (okPlain p)))] := by
  refine Sound.of X Try.call60 Try.func60 rfl rfl (by decide) Try.ntmps60 (by simp) ?_
  intro zb
  refine W.seq ?_
  refine W.reg X [] [] [1] [] rfl ⟨⟩ ?_
  refine W.seq ?_
  refine W.reg X [] [(5, ⟨false, [.a (.lit (.bool _))]⟩)] [2] [] rfl (by (repeat' (first | with_reducible exact AllP.nil | with_reducible refine AllP.mk ?_ ?_ | with_reducible apply And.intro)) <;> skip; (iterate 1 (all_goals try (first | exact (c_spec_l1In _ _ _))))) ?_
  refine W.ret ?_
  exact Fin.ret rfl ⟨by unfold okPlain; cases inr p.kind 0 3 <;> rfl, ⟨⟩⟩
theorem c_spec_CellCheck (key c : Int) (l : List UInt8) (hl : l.length ≤ 65536) : Sound ty Try.prog 64 [.a (.lit (.int .i64 key)), .a (.lit (.int .i64 c)), .a (.sl .u8 l)] [.a (.lit (.int .i64 (ccheck key c l)))] := by
  refine Sound.of X Try.call64 Try.func64 rfl rfl (by decide) Try.ntmps64 (by simp) ?_
  intro zb
  refine W.seq ?_
  refine W.reg X [] [] [0, 1, 2] [] rfl ⟨⟩ ?_
  refine W.seq ?_
  refine W.reg X [] [] [0, 2, 7] [] rfl (by (repeat' (first | exact True.intro | apply And.intro)) <;> first | exact rfl) ?_
  refine W.seq ?_
  refine W.seq ?_
  refine W.reg X [] [] [0, 2, 7, 8] [] rfl ⟨⟩ ?_
  refine W.block ?_
  refine W.loopO (fun k => k ≤ l.length) (fun k : Nat => [(8, .one (.a (.lit (.int .i64 k))))]) (fun k => [(10, .arr .int ([71, c] ++ (l.take k).map (fun x => (x.toNat : Int))))]) (fun k => l.length - k) 0 (fun k => rfl) (Nat.zero_le _) rfl ?_
  intro k hk
  refine W.seq ?_
  refine W.seq ?_
  refine W.reg X [] [] [0, 2, 7, 8, 14] [] rfl ⟨⟩ ?_
  refine W.cond rfl (fun hb0 => ?_) (fun hb0 => ?_)
  · try simp only [nb, inr_t, inr_f, isEmpty_t] at hb0
    have hs := cc_step l c k hb0
    refine W.skip ?_
    refine W.seq ?_
    refine W.block ?_
    refine W.reg X [(24, 10)] [] [0, 2, 7, 8] [] rfl (by (repeat' (first | exact True.intro | apply And.intro)) <;> first | (intros; omega) | exact rfl | (simp only [byt, maxLen, lens]; omega)) ?_
    refine W.reg X [] [] [0, 2, 7, 8] [] rfl ⟨⟩ ?_
    refine ⟨k + 1, by omega, by omega, ?_⟩
    rw [wadd _ k rfl (by omega), hs]
    try rfl
  · try simp only [nb, inr_t, inr_f, isEmpty_t] at hb0
    refine W.exit ?_
    refine W.seq ?_
    refine W.reg X [] [(27, ⟨false, [.a (.lit (.int .i64 _))]⟩)] [6] [] rfl (by (repeat' (first | with_reducible exact AllP.nil | with_reducible refine AllP.mk ?_ ?_ | with_reducible apply And.intro)) <;> skip; (iterate 1 (all_goals try (first | exact (c_spec_KeyedHash _ _ (by first | assumption | omega | (simp; done) | (simp; omega))))))) ?_
    refine W.ret ?_
    exact Fin.ret rfl ⟨by rw [List.take_of_length_le hb0]; rfl, ⟨⟩⟩
theorem c_spec_MailboxRow (key r d n : Int) : Sound ty Try.prog 14 [.a (.lit (.int .i64 key)), .a (.lit (.int .i64 r)), .a (.lit (.int .i64 d)), .a (.lit (.int .i64 n))] [.a (.lit (.int .i64 (mrow key r d n)))] := by
  refine Sound.of X Try.call14 Try.func14 rfl rfl (by decide) Try.ntmps14 (by simp) ?_
  intro zb
  refine W.seq ?_
  refine W.reg X [] [] [0, 1, 2, 3] [] rfl ⟨⟩ ?_
  refine W.seq ?_
  refine W.seq ?_
  refine W.reg X [] [(10, ⟨false, [.a (.lit (.bool _))]⟩), (14, ⟨false, [.a (.lit (.bool _))]⟩)] [0, 1, 2, 3, 16] [] rfl (by (repeat' (first | with_reducible exact AllP.nil | with_reducible refine AllP.mk ?_ ?_ | with_reducible apply And.intro)) <;> skip; (iterate 1 (all_goals try (first | exact (c_spec_l1In _ _ _) | exact fun _ => (c_spec_l1In _ _ _))))) ?_
  refine W.cond rfl (fun hb0 => ?_) (fun hb0 => ?_)
  · try simp only [nb, inr_t, inr_f, isEmpty_t] at hb0
    refine W.seq ?_
    refine W.reg X [] [] [8] [] rfl ⟨⟩ ?_
    refine W.ret ?_
    exact Fin.ret rfl ⟨by rw [mrow, if_neg (by omega)], ⟨⟩⟩
  · try simp only [nb, inr_t, inr_f, isEmpty_t] at hb0
    have hcs := cs_range (kh key [79, r, d]) 0
    refine W.skip ?_
    refine W.seq ?_
    refine W.reg X [] [(21, ⟨false, [.a (.lit (.int .i64 _))]⟩), (22, ⟨false, [.a (.lit (.int .i64 _))]⟩)] [8] [] rfl (by (repeat' (first | with_reducible exact AllP.nil | with_reducible refine AllP.mk ?_ ?_ | with_reducible apply And.intro)) <;> skip; (iterate 2 (all_goals try (first | exact (c_spec_KeyedHash _ _ (by first | assumption | omega | (simp; done) | (simp; omega))) | exact (c_spec_ChildSeed _ _)))); all_goals (first | (intros; omega) | exact ⟨rfl, El_all _ (by decide)⟩)) ?_
    refine W.ret ?_
    exact Fin.ret rfl ⟨by rw [mrow, if_pos (by omega), tmod_pos hcs.1], ⟨⟩⟩
theorem c_impl_cellKey (k c : Int) : Sound ty Try.prog 75 [.a (.lit (.int .i64 k)), .a (.lit (.int .i64 c))] [.a (.lit (.int .i64 (ckey k c)))] := by
  refine Sound.of X Try.call75 Try.func75 rfl rfl (by decide) Try.ntmps75 (by simp) ?_
  intro zb
  refine W.seq ?_
  refine W.reg X [] [] [0, 1] [] rfl ⟨⟩ ?_
  refine W.seq ?_
  refine W.reg X [] [(8, ⟨false, [.a (.lit (.int .i64 _))]⟩), (9, ⟨false, [.a (.lit (.int .i64 _))]⟩)] [4] [] rfl (by (repeat' (first | with_reducible exact AllP.nil | with_reducible refine AllP.mk ?_ ?_ | with_reducible apply And.intro)) <;> skip; (iterate 2 (all_goals try (first | exact (c_impl_KeyedHash _ _ (by first | assumption | omega | (simp; done) | (simp; omega))) | exact (c_impl_orOne _)))); all_goals (first | exact ⟨rfl, El_all _ (by decide)⟩)) ?_
  refine W.ret ?_
  exact Fin.ret rfl ⟨rfl, ⟨⟩⟩
theorem c_impl_DirectionKey (k c : Int) : Sound ty Try.prog 51 [.a (.lit (.int .i64 k)), .a (.lit (.int .i64 c))] [.a (.lit (.int .i64 (dkey k c)))] := by
  refine Sound.of X Try.call51 Try.func51 rfl rfl (by decide) Try.ntmps51 (by simp) ?_
  intro zb
  refine W.seq ?_
  refine W.reg X [] [] [0, 1] [] rfl ⟨⟩ ?_
  refine W.seq ?_
  refine W.reg X [] [(8, ⟨false, [.a (.lit (.int .i64 _))]⟩), (9, ⟨false, [.a (.lit (.int .i64 _))]⟩)] [4] [] rfl (by (repeat' (first | with_reducible exact AllP.nil | with_reducible refine AllP.mk ?_ ?_ | with_reducible apply And.intro)) <;> skip; (iterate 2 (all_goals try (first | exact (c_impl_KeyedHash _ _ (by first | assumption | omega | (simp; done) | (simp; omega))) | exact (c_impl_orOne _)))); all_goals (first | exact ⟨rfl, El_all _ (by decide)⟩)) ?_
  refine W.ret ?_
  exact Fin.ret rfl ⟨rfl, ⟨⟩⟩
theorem c_spec_l13Cipher (k c : Int) : Sound ty Try.prog 63 [.a (.lit (.int .i64 k)), .a (.lit (.int .i64 c))] [.a (.lit (.int .i64 (ckey k c)))] := by
  refine Sound.of X Try.call63 Try.func63 rfl rfl (by decide) Try.ntmps63 (by simp) ?_
  intro zb
  refine W.seq ?_
  refine W.reg X [] [] [0, 1] [] rfl ⟨⟩ ?_
  refine W.seq ?_
  refine W.reg X [] [(8, ⟨false, [.a (.lit (.int .i64 _))]⟩), (9, ⟨false, [.a (.lit (.int .i64 _))]⟩)] [4] [] rfl (by (repeat' (first | with_reducible exact AllP.nil | with_reducible refine AllP.mk ?_ ?_ | with_reducible apply And.intro)) <;> skip; (iterate 2 (all_goals try (first | exact (c_spec_KeyedHash _ _ (by first | assumption | omega | (simp; done) | (simp; omega))) | exact (c_spec_Max _ _)))); all_goals (first | exact ⟨rfl, El_all _ (by decide)⟩)) ?_
  refine W.ret ?_
  exact Fin.ret rfl ⟨by rw [or1_max (kh_range _ _).1]; rfl, ⟨⟩⟩
theorem c_spec_DirectionKey (k c : Int) : Sound ty Try.prog 40 [.a (.lit (.int .i64 k)), .a (.lit (.int .i64 c))] [.a (.lit (.int .i64 (dkey k c)))] := by
  refine Sound.of X Try.call40 Try.func40 rfl rfl (by decide) Try.ntmps40 (by simp) ?_
  intro zb
  refine W.seq ?_
  refine W.reg X [] [] [0, 1] [] rfl ⟨⟩ ?_
  refine W.seq ?_
  refine W.reg X [] [(8, ⟨false, [.a (.lit (.int .i64 _))]⟩), (9, ⟨false, [.a (.lit (.int .i64 _))]⟩)] [4] [] rfl (by (repeat' (first | with_reducible exact AllP.nil | with_reducible refine AllP.mk ?_ ?_ | with_reducible apply And.intro)) <;> skip; (iterate 2 (all_goals try (first | exact (c_spec_KeyedHash _ _ (by first | assumption | omega | (simp; done) | (simp; omega))) | exact (c_spec_Max _ _)))); all_goals (first | exact ⟨rfl, El_all _ (by decide)⟩)) ?_
  refine W.ret ?_
  exact Fin.ret rfl ⟨by rw [or1_max (kh_range _ _).1]; rfl, ⟨⟩⟩
theorem c_impl_checkBytes (k c : Int) (l : List UInt8) (hl : l.length ≤ 65536) : Sound ty Try.prog 76 [.a (.lit (.int .i64 k)), .a (.lit (.int .i64 c)), .a (.sl .u8 l)] [.a (.sl .u8 (four (ccheck k c l)))] := by
  refine Sound.of X Try.call76 Try.func76 rfl rfl (by decide) Try.ntmps76 (by simp) ?_
  intro zb
  refine W.seq ?_
  refine W.reg X [] [] [0, 1, 2] [] rfl ⟨⟩ ?_
  refine W.seq ?_
  refine W.reg X [] [(11, ⟨false, [.a (.lit (.int .i64 _))]⟩)] [7] [] rfl (by (repeat' (first | with_reducible exact AllP.nil | with_reducible refine AllP.mk ?_ ?_ | with_reducible apply And.intro)) <;> skip; (iterate 1 (all_goals try (first | exact (c_impl_CellCheck _ _ _ (by first | assumption | omega | (simp; done) | (simp; omega))))))) ?_
  refine W.seq ?_
  refine W.reg X [] [] [6] [] rfl (by (repeat' (first | exact True.intro | apply And.intro)) <;> first | (intros; omega) | exact rfl | exact (u8w _).1 | exact (u8w _).2) ?_
  refine W.ret ?_
  exact Fin.ret rfl ⟨four_eq _, ⟨⟩⟩
end Go.Proofs.Ythejghgjejhgoaa.G
namespace Go.Proofs.Ythejghgjejhgoaa.G
set_option linter.all false
open Go.RowKit L D
set_option maxRecDepth 100000
theorem str8_toList (a : List UInt8) : (str8 a).toList = a := by
  rw [ByteArray.toList_eq]; rfl
theorem c_spec_EqualBytes (a b : List UInt8) : Sound ty Try.prog 17 [.a (.sl .u8 a), .a (.sl .u8 b)] [.a (.lit (.bool (a == b)))] := by
  refine Sound.of X Try.call17 Try.func17 rfl rfl (by decide) Try.ntmps17 (by simp) ?_
  intro zb
  refine W.seq ?_
  refine W.reg X [] [] [0, 1] [] rfl ⟨⟩ ?_
  refine W.seq ?_
  refine W.reg X [] [] [4] [] rfl ⟨⟩ ?_
  refine W.ret ?_
  exact Fin.ret rfl ⟨by rw [str8_toList, str8_toList], ⟨⟩⟩
theorem c_slices_Equal_byte_byte (a b : List UInt8) : Sound ty Try.prog 49 [.a (.sl .u8 a), .a (.sl .u8 b)] [.a (.lit (.bool (a == b)))] := by
  refine Sound.of X Try.call49 Try.func49 rfl rfl (by decide) Try.ntmps49 (by simp) ?_
  intro zb
  refine W.bound 0 rfl (fun hl1 => ?_)
  refine W.bound 1 rfl (fun hl2 => ?_)
  refine W.seq ?_
  refine W.reg X [] [] [0, 1] [] rfl ⟨⟩ ?_
  refine W.seq ?_
  refine W.seq ?_
  refine W.reg X [] [] [0, 1, 10] [] rfl ⟨⟩ ?_
  refine W.cond rfl (fun hb0 => ?_) (fun hb0 => ?_)
  · try simp only [nb, inr_t, inr_f, isEmpty_t] at hb0
    refine W.seq ?_
    refine W.reg X [] [] [4] [] rfl ⟨⟩ ?_
    refine W.ret ?_
    exact Fin.ret rfl ⟨by rw [ne_of_len a b hb0], ⟨⟩⟩
  · try simp only [nb, inr_t, inr_f, isEmpty_t] at hb0
    refine W.skip ?_
    refine W.seq ?_
    refine W.seq ?_
    refine W.reg X [] [] [0, 1, 12, 13] [] rfl ⟨⟩ ?_
    refine W.block ?_
    refine W.loopO (fun k => k ≤ a.length ∧ a.take k = b.take k) (fun k : Nat => [(13, .one (.a (.lit (.int .i64 k))))]) (fun k => []) (fun k => a.length - k) 0 (fun k => rfl) ⟨Nat.zero_le _, rfl⟩ rfl ?_
    rintro k ⟨hk, hall⟩
    refine W.seq ?_
    refine W.reg X [] [] [0, 1, 12, 13, 14] [] rfl ⟨⟩ ?_
    refine W.seq ?_
    refine W.cond rfl (fun hb1 => ?_) (fun hb1 => ?_)
    · try simp only [nb, inr_t, inr_f, isEmpty_t] at hb1
      refine W.skip ?_
      refine W.seq ?_
      refine W.block ?_
      refine W.seq ?_
      refine W.reg X [] [] [0, 1, 5, 12, 13] [] rfl ⟨⟩ ?_
      refine W.seq ?_
      refine W.draw X [] [] [0, 1, 12, 13, 24] [] 9 MO (by kernel_rfl) rfl (by (repeat' (first | exact True.intro | apply And.intro)) <;> first | (intros; omega)) ?_
      refine W.cond rfl (fun hb2 => ?_) (fun hb2 => ?_)
      · try simp only [nb, inr_t, inr_f, isEmpty_t] at hb2
        have hne := ne_of_getD a b (dfl .u8) k (fun h => hb2 (by rw [h]))
        refine W.seq ?_
        refine W.reg X [] [] [4] [] rfl ⟨⟩ ?_
        refine W.ret ?_
        exact Fin.ret rfl ⟨by rw [hne], ⟨⟩⟩
      · try simp only [nb, inr_t, inr_f, isEmpty_t] at hb2
        have he : a.getD k (dfl .u8) = b.getD k (dfl .u8) := u8_inj hb2
        refine W.skip ?_
        refine W.reg X [] [] [0, 1, 12, 13] [] rfl ⟨⟩ ?_
        refine ⟨k + 1, ⟨by omega, take_eq_step a b (dfl .u8) k hb1 (by omega) hall he⟩, by omega, ?_⟩
        rw [wadd _ k rfl (by omega)]
        try rfl
    · try simp only [nb, inr_t, inr_f, isEmpty_t] at hb1
      refine W.exit ?_
      refine W.seq ?_
      refine W.reg X [] [] [4] [] rfl ⟨⟩ ?_
      refine W.ret ?_
      exact Fin.ret rfl ⟨by rw [eq_of_take a b k (by omega) (by omega) hall], ⟨⟩⟩
theorem c_impl_EqualBytes (a b : List UInt8) : Sound ty Try.prog 27 [.a (.sl .u8 a), .a (.sl .u8 b)] [.a (.lit (.bool (a == b)))] := by
  refine Sound.of X Try.call27 Try.func27 rfl rfl (by decide) Try.ntmps27 (by simp) ?_
  intro zb
  refine W.seq ?_
  refine W.reg X [] [] [0, 1] [] rfl ⟨⟩ ?_
  refine W.seq ?_
  refine W.reg X [] [(7, ⟨false, [.a (.lit (.bool _))]⟩)] [4] [] rfl (by (repeat' (first | with_reducible exact AllP.nil | with_reducible refine AllP.mk ?_ ?_ | with_reducible apply And.intro)) <;> skip; (iterate 1 (all_goals try (first | exact (c_slices_Equal_byte_byte _ _))))) ?_
  refine W.ret ?_
  exact Fin.ret rfl ⟨rfl, ⟨⟩⟩
end Go.Proofs.Ythejghgjejhgoaa.G
namespace Go.Proofs.Ythejghgjejhgoaa.G
set_option linter.all false
open Go.RowKit L D
set_option maxRecDepth 100000
theorem c_impl_SealCell (key c : Int) (p : Plain) : Sound ty Try.prog 50 [.a (.lit (.int .i64 key)), .a (.lit (.int .i64 c)), .agg (dec_Plain p)] [.a (.sl .u8 (sealC key c p)), .a (.lit (.bool (sealOK key c p)))] := by
  refine Sound.of X Try.call50 Try.func50 rfl rfl (by decide) Try.ntmps50 (by simp) ?_
  intro zb
  refine W.seq ?_
  refine W.reg X [] [] [0, 1, 5] [] rfl ⟨⟩ ?_
  refine W.seq ?_
  refine W.seq ?_
  refine W.reg X [] [(11, ⟨false, [.a (.lit (.bool (okKey key)))]⟩), (15, ⟨false, [.a (.lit (.bool (inr c 0 1000000000000)))]⟩), (20, ⟨false, [.a (.lit (.bool (okPlain p)))]⟩)] [0, 1, 5, 22] [] rfl (by (repeat' (first | with_reducible exact AllP.nil | with_reducible refine AllP.mk ?_ ?_ | with_reducible apply And.intro)) <;> skip; (iterate 3 (all_goals try (first | exact (c_impl_IsValidKey key) | exact fun _ => (c_impl_InRange c 0 1000000000000) | exact fun _ => (c_impl_IsValidPlain p))))) ?_
  refine W.cond rfl (fun hb0 => ?_) (fun hb0 => ?_)
  · have hk : sealOK key c p = false := or_no1 hb0 (by simp only [sealOK, ite_tt, ite_ff, gt_iff_lt, ge_iff_le, not_dlt, not_dle, bne_not, deq, decide_not, ne_eq, Bool.not_and, Bool.not_or, Bool.not_not, Bool.and_true, Bool.true_and, Bool.or_false, Bool.false_or, Int.toNat_natCast] <;> first | rfl | ac_rfl)
    refine W.seq ?_
    refine W.reg X [] [] [6, 7] [] rfl ⟨⟩ ?_
    refine W.ret ?_
    exact Fin.ret rfl ⟨by rw [sealC, if_neg (by rw [hk]; decide)], by rw [hk], ⟨⟩⟩
  · have hk : sealOK key c p = true := or_yes hb0 (by simp only [sealOK, ite_tt, ite_ff, gt_iff_lt, ge_iff_le, not_dlt, not_dle, bne_not, deq, decide_not, ne_eq, Bool.not_and, Bool.not_or, Bool.not_not, Bool.and_true, Bool.true_and, Bool.or_false, Bool.false_or, Int.toNat_natCast] <;> first | rfl | ac_rfl)
    have hp := sealOK_body hk
    have hst : (stream (kh key [61, c]) (18 : Int).toNat).length = 18 := stream_len _ _
    have hpl : (padded key c p).length ≤ 100 := by unfold padded; simp only [List.length_append, List.length_drop, List.length_cons, List.length_nil, stream_len]; omega
    have hf4 : (four (ccheck key c (encr (ckey key c) (padded key c p)))).length = 4 := rfl
    have hel : (encr (ckey key c) (padded key c p)).length ≤ 100 := by rw [encr_len]; exact hpl
    refine W.skip ?_
    refine W.seq ?_
    refine W.reg X [(33, 30)] [] [0, 1, 5, 8] [] rfl (by (repeat' (first | exact True.intro | apply And.intro)) <;> first | exact rfl | exact (u8w _).1 | exact (u8w _).2 | (simp only [byt, maxLen, lens]; omega)) ?_
    refine W.seq ?_
    refine W.draw X [(44, 30)] [(38, ⟨false, [.a (.lit (.int .i64 (kh key [61, c])))]⟩), (39, ⟨true, [.a (.sl .u8 (stream (kh key [61, c]) (18 : Int).toNat))]⟩)] [0, 1, 8] [] 10 MO (by kernel_rfl) rfl (by (repeat' (first | with_reducible exact AllP.nil | with_reducible refine AllP.mk ?_ ?_ | with_reducible apply And.intro)) <;> skip; (iterate 2 (all_goals try (first | exact (c_impl_KeyedHash key [61, c] (by first | assumption | omega | (simp; done) | (simp; omega))) | exact (c_impl_StreamBytes (kh key [61, c]) 18 (by first | assumption | omega | (simp; done) | (simp; omega)) (by first | assumption | omega | (simp; done) | (simp; omega)))))); all_goals (first | (intros; omega) | exact rfl | exact ⟨rfl, El_all _ (by decide)⟩ | (simp only [byt, maxLen, lens]; omega))) ?_
    refine W.seq ?_
    refine W.reg X [] [(47, ⟨false, [.a (.lit (.int .i64 (ckey key c)))]⟩), (49, ⟨true, [.a (.sl .u8 (encr (ckey key c) (padded key c p)))]⟩)] [0, 1, 9] [] rfl (by (repeat' (first | with_reducible exact AllP.nil | with_reducible refine AllP.mk ?_ ?_ | with_reducible apply And.intro)) <;> skip; (iterate 2 (all_goals try (first | exact (c_impl_cellKey key c) | exact (c_impl_Encrypt (ckey key c) (padded key c p) (by first | assumption | omega | (simp; done) | (simp; omega))))))) ?_
    refine W.seq ?_
    refine W.reg X [(55, 49)] [(54, ⟨true, [.a (.sl .u8 (four (ccheck key c (encr (ckey key c) (padded key c p)))))]⟩)] [6, 7] [] rfl (by (repeat' (first | with_reducible exact AllP.nil | with_reducible refine AllP.mk ?_ ?_ | with_reducible apply And.intro)) <;> skip; (iterate 1 (all_goals try (first | exact (c_impl_checkBytes key c (encr (ckey key c) (padded key c p)) (by first | assumption | omega | (simp; done) | (simp; omega)))))); all_goals (first | exact rfl | (simp only [byt, maxLen, lens]; omega))) ?_
    refine W.ret ?_
    exact Fin.ret rfl ⟨by rw [sealC, if_pos hk], by rw [hk], ⟨⟩⟩
theorem c_spec_SealCell (key c : Int) (p : Plain) : Sound ty Try.prog 39 [.a (.lit (.int .i64 key)), .a (.lit (.int .i64 c)), .agg (dec_Plain p)] [.a (.sl .u8 (sealC key c p)), .a (.lit (.bool (sealOK key c p)))] := by
  refine Sound.of X Try.call39 Try.func39 rfl rfl (by decide) Try.ntmps39 (by simp) ?_
  intro zb
  refine W.seq ?_
  refine W.reg X [] [] [0, 1, 5] [] rfl ⟨⟩ ?_
  refine W.seq ?_
  refine W.seq ?_
  refine W.reg X [] [(12, ⟨false, [.a (.lit (.bool (okKey key)))]⟩), (16, ⟨false, [.a (.lit (.bool (inr c 0 1000000000000)))]⟩), (21, ⟨false, [.a (.lit (.bool (okPlain p)))]⟩)] [0, 1, 5, 23] [] rfl (by (repeat' (first | with_reducible exact AllP.nil | with_reducible refine AllP.mk ?_ ?_ | with_reducible apply And.intro)) <;> skip; (iterate 3 (all_goals try (first | exact (c_spec_IsValidKey key) | exact fun _ => (c_spec_l1In c 0 1000000000000) | exact fun _ => (c_spec_IsValidPlain p))))) ?_
  refine W.cond rfl (fun hb0 => ?_) (fun hb0 => ?_)
  · have hk : sealOK key c p = false := or_no1 hb0 (by simp only [sealOK, ite_tt, ite_ff, gt_iff_lt, ge_iff_le, not_dlt, not_dle, bne_not, deq, decide_not, ne_eq, Bool.not_and, Bool.not_or, Bool.not_not, Bool.and_true, Bool.true_and, Bool.or_false, Bool.false_or, Int.toNat_natCast] <;> first | rfl | ac_rfl)
    refine W.seq ?_
    refine W.reg X [] [] [6, 7] [] rfl (by (repeat' (first | exact True.intro | apply And.intro)) <;> first | exact rfl) ?_
    refine W.ret ?_
    exact Fin.ret rfl ⟨by rw [sealC, if_neg (by rw [hk]; decide)], by rw [hk], ⟨⟩⟩
  · have hk : sealOK key c p = true := or_yes hb0 (by simp only [sealOK, ite_tt, ite_ff, gt_iff_lt, ge_iff_le, not_dlt, not_dle, bne_not, deq, decide_not, ne_eq, Bool.not_and, Bool.not_or, Bool.not_not, Bool.and_true, Bool.true_and, Bool.or_false, Bool.false_or, Int.toNat_natCast] <;> first | rfl | ac_rfl)
    have hp := sealOK_body hk
    have hst : (stream (kh key [61, c]) (18 : Int).toNat).length = 18 := stream_len _ _
    have hpl : (padded key c p).length ≤ 100 := by unfold padded; simp only [List.length_append, List.length_drop, List.length_cons, List.length_nil, stream_len]; omega
    have hf4 : (four (ccheck key c (encr (ckey key c) (padded key c p)))).length = 4 := rfl
    have hel : (encr (ckey key c) (padded key c p)).length ≤ 100 := by rw [encr_len]; exact hpl
    refine W.skip ?_
    refine W.seq ?_
    refine W.reg X [(35, 32)] [] [0, 1, 5, 8] [] rfl (by (repeat' (first | exact True.intro | apply And.intro)) <;> first | exact rfl | exact (u8w _).1 | exact (u8w _).2 | (simp only [byt, maxLen, lens]; omega)) ?_
    refine W.seq ?_
    refine W.draw X [(46, 32)] [(40, ⟨false, [.a (.lit (.int .i64 (kh key [61, c])))]⟩), (41, ⟨true, [.a (.sl .u8 (stream (kh key [61, c]) (18 : Int).toNat))]⟩)] [0, 1, 8] [] 10 MO (by kernel_rfl) rfl (by (repeat' (first | with_reducible exact AllP.nil | with_reducible refine AllP.mk ?_ ?_ | with_reducible apply And.intro)) <;> skip; (iterate 2 (all_goals try (first | exact (c_spec_KeyedHash key [61, c] (by first | assumption | omega | (simp; done) | (simp; omega))) | exact (c_spec_StreamBytes (kh key [61, c]) 18 (by first | assumption | omega | (simp; done) | (simp; omega)) (by first | assumption | omega | (simp; done) | (simp; omega)))))); all_goals (first | (intros; omega) | exact rfl | exact ⟨rfl, El_all _ (by decide)⟩ | (simp only [byt, maxLen, lens]; omega))) ?_
    refine W.seq ?_
    refine W.reg X [] [(49, ⟨false, [.a (.lit (.int .i64 (ckey key c)))]⟩), (51, ⟨true, [.a (.sl .u8 (encr (ckey key c) (padded key c p)))]⟩)] [0, 1, 9] [] rfl (by (repeat' (first | with_reducible exact AllP.nil | with_reducible refine AllP.mk ?_ ?_ | with_reducible apply And.intro)) <;> skip; (iterate 2 (all_goals try (first | exact (c_spec_l13Cipher key c) | exact (c_spec_Encrypt (ckey key c) (padded key c p) (by first | assumption | omega | (simp; done) | (simp; omega))))))) ?_
    refine W.seq ?_
    refine W.reg X [] [(55, ⟨false, [.a (.lit (.int .i64 (ccheck key c (encr (ckey key c) (padded key c p)))))]⟩)] [9, 10] [] rfl (by (repeat' (first | with_reducible exact AllP.nil | with_reducible refine AllP.mk ?_ ?_ | with_reducible apply And.intro)) <;> skip; (iterate 1 (all_goals try (first | exact (c_spec_CellCheck key c (encr (ckey key c) (padded key c p)) (by first | assumption | omega | (simp; done) | (simp; omega))))))) ?_
    refine W.seq ?_
    refine W.reg X [(69, 51)] [] [6, 7] [] rfl (by (repeat' (first | exact True.intro | apply And.intro)) <;> first | (intros; omega) | exact rfl | exact (u8w _).1 | exact (u8w _).2 | (simp only [byt, maxLen, lens]; omega)) ?_
    refine W.ret ?_
    exact Fin.ret rfl ⟨(congrArg (fun z => encr (ckey key c) (padded key c p) ++ z) (four_eq _)).trans (by rw [sealC, if_pos hk]), by rw [hk], ⟨⟩⟩
theorem c_impl_hasClient (x : Wld) (c : Int) : Sound ty Try.prog 44 [.agg (dec_Wld x), .a (.lit (.int .i64 c))] [.a (.lit (.bool (hasC x c)))] := by
  refine Sound.of X Try.call44 Try.func44 rfl rfl (by decide) Try.ntmps44 (by simp) ?_
  intro zb
  refine W.boundA 0 2 rfl rfl (fun hl2 => ?_)
  refine W.seq ?_
  refine W.reg X [] [] [1, 2] [] rfl ⟨⟩ ?_
  refine W.seq ?_
  refine W.reg X [] [(10, ⟨false, [.a (.lit (.bool _))]⟩)] [4] [] rfl (by (repeat' (first | with_reducible exact AllP.nil | with_reducible refine AllP.mk ?_ ?_ | with_reducible apply And.intro)) <;> skip; (iterate 1 (all_goals try (first | exact (c_impl_InRange _ _ _))))) ?_
  refine W.ret ?_
  exact Fin.ret rfl ⟨by rw [i64w (by omega)]; rfl, ⟨⟩⟩
theorem c_impl_hasPair (x : Wld) (c : Int) (hd : x.devices.length ≤ 1048576) : Sound ty Try.prog 23 [.agg (dec_Wld x), .a (.lit (.int .i64 c))] [.a (.lit (.bool (pairOK x c)))] := by
  refine Sound.of X Try.call23 Try.func23 rfl rfl (by decide) Try.ntmps23 (by simp) ?_
  intro zb
  refine W.seq ?_
  refine W.reg X [] [] [1, 2] [] rfl ⟨⟩ ?_
  refine W.seq ?_
  refine W.reg X [] [(7, ⟨false, [.a (.lit (.bool (hasC x c)))]⟩), (12, ⟨false, [.a (.lit (.bool (hasC x (IntKind.i64.wrap (BitVec.ofInt IntKind.i64.bits c ^^^ BitVec.ofInt IntKind.i64.bits 1).toNat))))]⟩)] [4] [] rfl (by (repeat' (first | with_reducible exact AllP.nil | with_reducible refine AllP.mk ?_ ?_ | with_reducible apply And.intro)) <;> skip; (iterate 2 (all_goals try (first | exact (c_impl_hasClient x c) | exact fun _ => (c_impl_hasClient x (IntKind.i64.wrap (BitVec.ofInt IntKind.i64.bits c ^^^ BitVec.ofInt IntKind.i64.bits 1).toNat)))))) ?_
  refine W.ret ?_
  exact Fin.ret rfl ⟨by rw [ite_ff, pair_impl hd], ⟨⟩⟩
theorem c_spec_l37Pair (x : Wld) (c : Int) (hd : x.devices.length ≤ 1048576) : Sound ty Try.prog 13 [.agg (dec_Wld x), .a (.lit (.int .i64 c))] [.a (.lit (.bool (pairOK x c)))] := by
  refine Sound.of X Try.call13 Try.func13 rfl rfl (by decide) Try.ntmps13 (by simp) ?_
  intro zb
  refine W.seq ?_
  refine W.reg X [] [] [1, 2] [] rfl ⟨⟩ ?_
  refine W.seq ?_
  refine W.reg X [] [(10, ⟨false, [.a (.lit (.bool (inr c 0 (IntKind.i64.wrap ((x.devices.length : Int) - 1)))))]⟩)] [4] [] rfl (by (repeat' (first | with_reducible exact AllP.nil | with_reducible refine AllP.mk ?_ ?_ | with_reducible apply And.intro)) <;> skip; (iterate 1 (all_goals try (first | exact (c_spec_l1In c 0 (IntKind.i64.wrap ((x.devices.length : Int) - 1))))))) ?_
  refine W.ret ?_
  exact Fin.ret rfl ⟨by rw [i64w (by omega), ite_ff, pair_spec hd], ⟨⟩⟩
theorem c_impl_direction (c : Cli) : Sound ty Try.prog 26 [.agg (dec_Cli c)] [.a (.lit (.int .i64 (dirn c)))] := by
  refine Sound.of X Try.call26 Try.func26 rfl rfl (by decide) Try.ntmps26 (by simp) ?_
  intro zb
  refine W.seq ?_
  refine W.reg X [] [] [1] [] rfl ⟨⟩ ?_
  refine W.seq ?_
  refine W.seq ?_
  refine W.reg X [] [] [7] [] rfl ⟨⟩ ?_
  refine W.cond rfl (fun hb0 => ?_) (fun hb0 => ?_)
  · try simp only [nb, inr_t, inr_f, isEmpty_t] at hb0
    refine W.seq ?_
    refine W.reg X [] [] [2] [] rfl ⟨⟩ ?_
    refine W.ret ?_
    exact Fin.ret rfl ⟨by rw [dirn, if_pos hb0], ⟨⟩⟩
  · try simp only [nb, inr_t, inr_f, isEmpty_t] at hb0
    refine W.skip ?_
    refine W.seq ?_
    refine W.reg X [] [] [2] [] rfl ⟨⟩ ?_
    refine W.ret ?_
    exact Fin.ret rfl ⟨by rw [dirn, if_neg (by omega)], ⟨⟩⟩
theorem c_impl_messageCell (c : Cli) (a : Int) (h0 : 0 ≤ a) (h1 : a < c.submitted.length) : Sound ty Try.prog 28 [.agg (dec_Cli c), .a (.lit (.int .i64 a))] [.a (.sl .u8 (mcell c a))] := by
  refine Sound.of X Try.call28 Try.func28 rfl rfl (by decide) Try.ntmps28 (by simp) ?_
  intro zb
  refine W.seq ?_
  refine W.reg X [] [] [1, 2] [] rfl ⟨⟩ ?_
  refine W.seq ?_
  refine W.draw X [] [(11, ⟨false, [.a (.lit (.int .i64 (dirn c)))]⟩), (12, ⟨false, [.a (.lit (.int .i64 (dkey c.key (dirn c))))]⟩), (20, ⟨true, [.a (.sl .u8 (sealC (dkey c.key (dirn c)) a (⟨1, (c.submitted.getD (a).toNat (dfl (.sl .u8)))⟩ : Plain))), .a (.lit (.bool (sealOK (dkey c.key (dirn c)) a (⟨1, (c.submitted.getD (a).toNat (dfl (.sl .u8)))⟩ : Plain))))]⟩)] [5] [] 18 MO (by kernel_rfl) rfl (by (repeat' (first | with_reducible exact AllP.nil | with_reducible refine AllP.mk ?_ ?_ | with_reducible apply And.intro)) <;> skip; (iterate 3 (all_goals try (first | exact (c_impl_direction c) | exact (c_impl_DirectionKey c.key (dirn c)) | exact (c_impl_SealCell (dkey c.key (dirn c)) a (⟨1, (c.submitted.getD (a).toNat (dfl (.sl .u8)))⟩ : Plain))))); all_goals (first | (intros; omega))) ?_
  refine W.seq ?_
  refine W.reg X [] [] [4] [] rfl ⟨⟩ ?_
  refine W.ret ?_
  exact Fin.ret rfl ⟨rfl, ⟨⟩⟩
theorem c_impl_ReadRow (d : DB) (i : Int) (hs0 : lsz List.length d.rows ≤ 1048576) : Sound ty Try.prog 24 [.agg (dec_DB d), .a (.lit (.int .i64 i))] [.a (.sl .u8 (rowAt d i)), .a (.lit (.bool (rowOK d i)))] := by
  refine Sound.of X Try.call24 Try.func24 rfl rfl (by decide) Try.ntmps24 (by simp) ?_
  intro zb
  have hll : d.rows.length ≤ 1048576 := lsz_len hs0
  refine W.seq ?_
  refine W.reg X [] [] [1, 2] [] rfl ⟨⟩ ?_
  refine W.seq ?_
  refine W.seq ?_
  refine W.reg X [] [(11, ⟨false, [.a (.lit (.bool (inr i 0 (IntKind.i64.wrap ((d.rows.length : Int) - 1)))))]⟩)] [1, 2, 12] [] rfl (by (repeat' (first | with_reducible exact AllP.nil | with_reducible refine AllP.mk ?_ ?_ | with_reducible apply And.intro)) <;> skip; (iterate 1 (all_goals try (first | exact (c_impl_InRange i 0 (IntKind.i64.wrap ((d.rows.length : Int) - 1))))))) ?_
  refine W.cond rfl (fun hb0 => ?_) (fun hb0 => ?_)
  · rw [i64w (by omega)] at hb0
    have hk : rowOK d i = false := or_no1 hb0 rfl
    refine W.seq ?_
    refine W.reg X [] [] [4, 5] [] rfl ⟨⟩ ?_
    refine W.ret ?_
    exact Fin.ret rfl ⟨by rw [rowAt, if_neg (by rw [hk]; decide)], by rw [hk], ⟨⟩⟩
  · rw [i64w (by omega)] at hb0
    have hk : rowOK d i = true := or_yes hb0 rfl
    have hk2 := hk
    simp only [rowOK, inr_t] at hk2
    have hel := lsz_el hs0 i.toNat (by omega)
    refine W.skip ?_
    refine W.seq ?_
    refine W.reg X [] [(18, ⟨true, [.a (.sl .u8 _)]⟩)] [4, 5] [] rfl (by (repeat' (first | with_reducible exact AllP.nil | with_reducible refine AllP.mk ?_ ?_ | with_reducible apply And.intro)) <;> skip; (iterate 1 (all_goals try (first | exact (c_slices_Clone_byte_byte _ (by first | assumption | omega | (simp; done) | (simp; omega)))))); all_goals (first | (intros; omega))) ?_
    refine W.ret ?_
    exact Fin.ret rfl ⟨by rw [rowAt, if_pos hk], by rw [hk], ⟨⟩⟩
theorem c_spec_l29Direction (c : Cli) : Sound ty Try.prog 15 [.agg (dec_Cli c)] [.a (.lit (.int .i64 (dirn c)))] := by
  refine Sound.of X Try.call15 Try.func15 rfl rfl (by decide) Try.ntmps15 (by simp) ?_
  intro zb
  refine W.seq ?_
  refine W.reg X [] [] [1] [] rfl ⟨⟩ ?_
  refine W.seq ?_
  refine W.seq ?_
  refine W.reg X [] [] [7] [] rfl ⟨⟩ ?_
  refine W.cond rfl (fun hb0 => ?_) (fun hb0 => ?_)
  · try simp only [nb, inr_t, inr_f, isEmpty_t] at hb0
    refine W.seq ?_
    refine W.reg X [] [] [2] [] rfl ⟨⟩ ?_
    refine W.ret ?_
    exact Fin.ret rfl ⟨by rw [dirn, if_pos hb0], ⟨⟩⟩
  · try simp only [nb, inr_t, inr_f, isEmpty_t] at hb0
    refine W.skip ?_
    refine W.seq ?_
    refine W.reg X [] [] [2] [] rfl ⟨⟩ ?_
    refine W.ret ?_
    exact Fin.ret rfl ⟨by rw [dirn, if_neg (by omega)], ⟨⟩⟩
theorem c_spec_l29Cell (c : Cli) (h0 : 0 ≤ c.sent) (h1 : c.sent < c.submitted.length) : Sound ty Try.prog 18 [.agg (dec_Cli c)] [.a (.sl .u8 (mcell c c.sent))] := by
  refine Sound.of X Try.call18 Try.func18 rfl rfl (by decide) Try.ntmps18 (by simp) ?_
  intro zb
  refine W.seq ?_
  refine W.reg X [] [] [1] [] rfl ⟨⟩ ?_
  refine W.seq ?_
  refine W.draw X [] [(9, ⟨false, [.a (.lit (.int .i64 (dirn c)))]⟩), (10, ⟨false, [.a (.lit (.int .i64 (dkey c.key (dirn c))))]⟩), (20, ⟨true, [.a (.sl .u8 (sealC (dkey c.key (dirn c)) c.sent (⟨1, (c.submitted.getD (c.sent).toNat (dfl (.sl .u8)))⟩ : Plain))), .a (.lit (.bool (sealOK (dkey c.key (dirn c)) c.sent (⟨1, (c.submitted.getD (c.sent).toNat (dfl (.sl .u8)))⟩ : Plain))))]⟩)] [3] [] 20 MO (by kernel_rfl) rfl (by (repeat' (first | with_reducible exact AllP.nil | with_reducible refine AllP.mk ?_ ?_ | with_reducible apply And.intro)) <;> skip; (iterate 3 (all_goals try (first | exact (c_spec_l29Direction c) | exact (c_spec_DirectionKey c.key (dirn c)) | exact (c_spec_SealCell (dkey c.key (dirn c)) c.sent (⟨1, (c.submitted.getD (c.sent).toNat (dfl (.sl .u8)))⟩ : Plain))))); all_goals (first | (intros; omega))) ?_
  refine W.seq ?_
  refine W.reg X [] [] [2] [] rfl ⟨⟩ ?_
  refine W.ret ?_
  exact Fin.ret rfl ⟨rfl, ⟨⟩⟩
theorem c_spec_ReadRow (d : DB) (i : Int) (hs0 : lsz List.length d.rows ≤ 1048576) : Sound ty Try.prog 16 [.agg (dec_DB d), .a (.lit (.int .i64 i))] [.a (.sl .u8 (rowAt d i)), .a (.lit (.bool (rowOK d i)))] := by
  refine Sound.of X Try.call16 Try.func16 rfl rfl (by decide) Try.ntmps16 (by simp) ?_
  intro zb
  have hll : d.rows.length ≤ 1048576 := lsz_len hs0
  refine W.seq ?_
  refine W.reg X [] [] [1, 2] [] rfl ⟨⟩ ?_
  refine W.seq ?_
  refine W.seq ?_
  refine W.reg X [] [(11, ⟨false, [.a (.lit (.bool (inr i 0 (IntKind.i64.wrap ((d.rows.length : Int) - 1)))))]⟩)] [1, 2, 12] [] rfl (by (repeat' (first | with_reducible exact AllP.nil | with_reducible refine AllP.mk ?_ ?_ | with_reducible apply And.intro)) <;> skip; (iterate 1 (all_goals try (first | exact (c_spec_l1In i 0 (IntKind.i64.wrap ((d.rows.length : Int) - 1))))))) ?_
  refine W.cond rfl (fun hb0 => ?_) (fun hb0 => ?_)
  · rw [i64w (by omega)] at hb0
    have hk : rowOK d i = false := or_no1 hb0 rfl
    refine W.seq ?_
    refine W.reg X [] [] [4, 5] [] rfl (by (repeat' (first | exact True.intro | apply And.intro)) <;> first | exact rfl) ?_
    refine W.ret ?_
    exact Fin.ret rfl ⟨by rw [rowAt, if_neg (by rw [hk]; decide)], by rw [hk], ⟨⟩⟩
  · rw [i64w (by omega)] at hb0
    have hk : rowOK d i = true := or_yes hb0 rfl
    have hk2 := hk
    simp only [rowOK, inr_t] at hk2
    have hel := lsz_el hs0 i.toNat (by omega)
    refine W.skip ?_
    refine W.seq ?_
    refine W.reg X [(20, 14)] [] [4, 5] [] rfl (by (repeat' (first | exact True.intro | apply And.intro)) <;> first | (intros; omega) | exact rfl | (simp only [byt, maxLen, lens]; omega)) ?_
    refine W.ret ?_
    exact Fin.ret rfl ⟨by rw [rowAt, if_pos hk]; rfl, by rw [hk], ⟨⟩⟩
end Go.Proofs.Ythejghgjejhgoaa.G
namespace Go.Proofs.Ythejghgjejhgoaa.G
set_option linter.all false
open Go.RowKit L D
set_option maxRecDepth 100000
theorem c_impl_SentIsReceived (x : Wld) (i : Int) (hsz : size_Wld x ≤ 1048576) : Sound ty Try.prog 7 [.agg (dec_Wld x), .a (.lit (.int .i64 i))] [.a (.lit (.bool (sentRecv x i)))] := by
  refine Sound.of X Try.call7 Try.func7 rfl rfl (by decide) Try.ntmps7 (by simp) ?_
  intro zb
  have hd : x.devices.length ≤ 1048576 := dev_le hsz
  have hrl : x.archive.rounds.length ≤ 1048576 := rounds_le hsz
  refine W.seq ?_
  refine W.reg X [] [] [1, 2] [] rfl ⟨⟩ ?_
  refine W.seq ?_
  refine W.seq ?_
  refine W.reg X [] [(14, ⟨false, [.a (.lit (.bool (pairOK x i)))]⟩)] [1, 2, 15] [] rfl (by (repeat' (first | with_reducible exact AllP.nil | with_reducible refine AllP.mk ?_ ?_ | with_reducible apply And.intro)) <;> skip; (iterate 1 (all_goals try (first | exact (c_impl_hasPair x i (by first | assumption | omega | (simp; done) | (simp; omega))))))) ?_
  refine W.cond rfl (fun hb0 => ?_) (fun hb0 => ?_)
  · have hpk : pairOK x i = false := by simpa using hb0
    refine W.seq ?_
    refine W.reg X [] [] [4] [] rfl ⟨⟩ ?_
    refine W.ret ?_
    exact Fin.ret rfl ⟨by rw [sentRecv, if_neg (by rw [hpk]; decide)], ⟨⟩⟩
  · have hpk : pairOK x i = true := by simpa using hb0
    obtain ⟨hi0, hi1, hi2, hi3⟩ := pair_lt hpk
    have hx := xorN i.toNat (by omega)
    rw [← hi3] at hx
    have hx2 : (IntKind.i64.wrap (BitVec.ofInt IntKind.i64.bits i ^^^ BitVec.ofInt IntKind.i64.bits 1).toNat).toNat = i.toNat ^^^ 1 := by rw [hx]; rfl
    have hin := inbox_le hsz (k := (IntKind.i64.wrap (BitVec.ofInt IntKind.i64.bits i ^^^ BitVec.ofInt IntKind.i64.bits 1).toNat).toNat) (by rw [hx2]; exact hi2)
    have hsb := lsz_len (live_le (lsz_cli hsz hi1)).1
    refine W.skip ?_
    refine W.seq ?_
    refine W.drawK X [] [] [2, 5, 6] [] 32767 (.ph 32767 (.br 32767 15 (.ph 0 (.br 0 16 (.last 0) (.nil))) (.br 28671 15 (.ph 4096 (.br 4096 16 (.last 0) (.nil))) (.br 26623 15 (.ph 6144 (.br 6144 16 (.last 0) (.nil))) (.br 25599 15 (.ph 7168 (.br 7168 16 (.last 0) (.nil))) (.br 25087 15 (.ph 7680 (.br 7680 16 (.last 0) (.nil))) (.br 24831 15 (.ph 7936 (.br 7936 16 (.last 0) (.nil))) (.br 25471 15 (.ph 7296 (.br 7296 16 (.last 0) (.nil))) (.br 24959 15 (.ph 7808 (.br 7808 16 (.last 0) (.nil))) (.br 24703 15 (.ph 8064 (.br 8064 16 (.last 0) (.nil))) (.br 25407 15 (.ph 7360 (.br 7360 16 (.last 0) (.nil))) (.br 24895 15 (.ph 7872 (.br 7872 16 (.last 0) (.nil))) (.br 24639 15 (.ph 8128 (.br 8128 16 (.last 0) (.nil))) (.nil)))))))))))))) 11 MO (by kernel_rfl) rfl (by kernel_rfl) (by (repeat' (first | exact True.intro | apply And.intro)) <;> first | (intros; omega)) ?_
    refine W.seq ?_
    refine W.reg X [] [] [2, 5, 6, 7] [] rfl ⟨⟩ ?_
    refine W.seq ?_
    refine W.seq ?_
    refine W.reg X [] [] [2, 5, 6, 7, 34, 35, 36] [] rfl ⟨⟩ ?_
    refine W.block ?_
    refine W.loopO (fun k => k ≤ x.archive.rounds.length) (fun k : Nat => [(7, .one (.a (.lit (.int .i64 ((rcount x (x.devices.getD i.toNat (dfl .Dev)).live (x.devices.getD (IntKind.i64.wrap (BitVec.ofInt IntKind.i64.bits i ^^^ BitVec.ofInt IntKind.i64.bits 1).toNat).toNat (dfl .Dev)).live (x.archive.rounds.take k) : Nat) : Int))))), (36, .one (.a (.lit (.int .i64 k))))]) (fun k => []) (fun k => x.archive.rounds.length - k) 0 (fun k => rfl) (Nat.zero_le _) rfl ?_
    intro k hk
    refine W.seq ?_
    refine W.reg X [] [] [2, 5, 6, 7, 34, 35, 36, 37] [] rfl ⟨⟩ ?_
    refine W.seq ?_
    refine W.cond rfl (fun hb1 => ?_) (fun hb1 => ?_)
    · try simp only [nb, inr_t, inr_f, isEmpty_t] at hb1
      have hkl := hb1
      have hs := rcount_step x (x.devices.getD i.toNat (dfl .Dev)).live (x.devices.getD (IntKind.i64.wrap (BitVec.ofInt IntKind.i64.bits i ^^^ BitVec.ofInt IntKind.i64.bits 1).toNat).toNat (dfl .Dev)).live x.archive.rounds k hkl
      have hle := rcount_le x (x.devices.getD i.toNat (dfl .Dev)).live (x.devices.getD (IntKind.i64.wrap (BitVec.ofInt IntKind.i64.bits i ^^^ BitVec.ofInt IntKind.i64.bits 1).toNat).toNat (dfl .Dev)).live x.archive.rounds k
      have har := lsz_ar hsz k hkl
      refine W.skip ?_
      refine W.seq ?_
      refine W.block ?_
      refine W.seq ?_
      refine W.reg X [] [] [2, 5, 6, 7, 9, 34, 35, 36] [] rfl (by (repeat' (first | exact True.intro | apply And.intro)) <;> first | (intros; omega)) ?_
      refine W.seq ?_
      refine W.seq ?_
      refine W.reg X [] [] [2, 5, 6, 7, 9, 34, 35, 36, 51] [] rfl ⟨⟩ ?_
      refine W.cond rfl (fun hb2 => ?_) (fun hb2 => ?_)
      · try simp only [nb, inr_t, inr_f, isEmpty_t] at hb2
        rw [rstep_skip hb2] at hs
        refine W.exit ?_
        refine W.reg X [] [] [2, 5, 6, 7, 34, 35, 36] [] rfl ⟨⟩ ?_
        refine ⟨k + 1, by omega, by omega, ?_⟩
        rw [wadd _ k rfl (by omega), hs]
        try rfl
      · try simp only [nb, inr_t, inr_f, isEmpty_t] at hb2
        have hns : ¬ ((x.archive.rounds.getD k (dfl .ARound)).round < (x.devices.getD (IntKind.i64.wrap (BitVec.ofInt IntKind.i64.bits i ^^^ BitVec.ofInt IntKind.i64.bits 1).toNat).toNat (dfl .Dev)).live.next ∨ (x.devices.getD i.toNat (dfl .Dev)).live.submitted.length ≤ rcount x (x.devices.getD i.toNat (dfl .Dev)).live (x.devices.getD (IntKind.i64.wrap (BitVec.ofInt IntKind.i64.bits i ^^^ BitVec.ofInt IntKind.i64.bits 1).toNat).toNat (dfl .Dev)).live (x.archive.rounds.take k)) := by omega
        refine W.skip ?_
        refine W.seq ?_
        refine W.draw X [] [(60, ⟨false, [.a (.lit (.int .i64 (dirn ((x.devices.getD i.toNat (dfl .Dev)).live))))]⟩), (63, ⟨false, [.a (.lit (.int .i64 (mrow ((x.devices.getD i.toNat (dfl .Dev)).live.key) ((x.archive.rounds.getD k (dfl .ARound)).round) (dirn (x.devices.getD i.toNat (dfl .Dev)).live) x.rows)))]⟩), (64, ⟨true, [.a (.sl .u8 (rowAt ((x.archive.rounds.getD k (dfl .ARound)).db) (mrow (x.devices.getD i.toNat (dfl .Dev)).live.key (x.archive.rounds.getD k (dfl .ARound)).round (dirn (x.devices.getD i.toNat (dfl .Dev)).live) x.rows))), .a (.lit (.bool (rowOK ((x.archive.rounds.getD k (dfl .ARound)).db) (mrow (x.devices.getD i.toNat (dfl .Dev)).live.key (x.archive.rounds.getD k (dfl .ARound)).round (dirn (x.devices.getD i.toNat (dfl .Dev)).live) x.rows))))]⟩)] [2, 5, 6, 7, 10, 11, 34, 35, 36] [] 17 MO (by kernel_rfl) rfl (by (repeat' (first | with_reducible exact AllP.nil | with_reducible refine AllP.mk ?_ ?_ | with_reducible apply And.intro)) <;> skip; (iterate 3 (all_goals try (first | exact (c_impl_direction ((x.devices.getD i.toNat (dfl .Dev)).live)) | exact (c_impl_MailboxRow ((x.devices.getD i.toNat (dfl .Dev)).live.key) ((x.archive.rounds.getD k (dfl .ARound)).round) (dirn (x.devices.getD i.toNat (dfl .Dev)).live) x.rows) | exact (c_impl_ReadRow ((x.archive.rounds.getD k (dfl .ARound)).db) (mrow (x.devices.getD i.toNat (dfl .Dev)).live.key (x.archive.rounds.getD k (dfl .ARound)).round (dirn (x.devices.getD i.toNat (dfl .Dev)).live) x.rows) (by first | assumption | omega | (simp; done) | (simp; omega))))))) ?_
        refine W.seq ?_
        refine W.reg X [] [(72, ⟨false, [.a (.sl .u8 (mcell ((x.devices.getD i.toNat (dfl .Dev)).live) ((rcount x (x.devices.getD i.toNat (dfl .Dev)).live (x.devices.getD (IntKind.i64.wrap (BitVec.ofInt IntKind.i64.bits i ^^^ BitVec.ofInt IntKind.i64.bits 1).toNat).toNat (dfl .Dev)).live (x.archive.rounds.take k) : Nat) : Int)))]⟩), (73, ⟨false, [.a (.lit (.bool ((rowAt (x.archive.rounds.getD k (dfl .ARound)).db (mrow (x.devices.getD i.toNat (dfl .Dev)).live.key (x.archive.rounds.getD k (dfl .ARound)).round (dirn (x.devices.getD i.toNat (dfl .Dev)).live) x.rows)) == (mcell (x.devices.getD i.toNat (dfl .Dev)).live ((rcount x (x.devices.getD i.toNat (dfl .Dev)).live (x.devices.getD (IntKind.i64.wrap (BitVec.ofInt IntKind.i64.bits i ^^^ BitVec.ofInt IntKind.i64.bits 1).toNat).toNat (dfl .Dev)).live (x.archive.rounds.take k) : Nat) : Int)))))]⟩)] [2, 5, 6, 7, 34, 35, 36, 74] [] rfl (by (repeat' (first | with_reducible exact AllP.nil | with_reducible refine AllP.mk ?_ ?_ | with_reducible apply And.intro)) <;> skip; (iterate 2 (all_goals try (first | exact fun _ => (c_impl_messageCell ((x.devices.getD i.toNat (dfl .Dev)).live) ((rcount x (x.devices.getD i.toNat (dfl .Dev)).live (x.devices.getD (IntKind.i64.wrap (BitVec.ofInt IntKind.i64.bits i ^^^ BitVec.ofInt IntKind.i64.bits 1).toNat).toNat (dfl .Dev)).live (x.archive.rounds.take k) : Nat) : Int) (by first | assumption | omega | (simp; done) | (simp; omega)) (by first | assumption | omega | (simp; done) | (simp; omega))) | exact fun _ => (c_impl_EqualBytes (rowAt (x.archive.rounds.getD k (dfl .ARound)).db (mrow (x.devices.getD i.toNat (dfl .Dev)).live.key (x.archive.rounds.getD k (dfl .ARound)).round (dirn (x.devices.getD i.toNat (dfl .Dev)).live) x.rows)) (mcell (x.devices.getD i.toNat (dfl .Dev)).live ((rcount x (x.devices.getD i.toNat (dfl .Dev)).live (x.devices.getD (IntKind.i64.wrap (BitVec.ofInt IntKind.i64.bits i ^^^ BitVec.ofInt IntKind.i64.bits 1).toNat).toNat (dfl .Dev)).live (x.archive.rounds.take k) : Nat) : Int))))))) ?_
        refine W.cond rfl (fun hb3 => ?_) (fun hb3 => ?_)
        · rw [ite_ff] at hb3
          rw [rstep_hit hns hb3] at hs
          refine W.reg X [] [] [2, 5, 6, 7, 34, 35, 36] [] rfl ⟨⟩ ?_
          refine W.reg X [] [] [2, 5, 6, 7, 34, 35, 36] [] rfl ⟨⟩ ?_
          refine ⟨k + 1, by omega, by omega, ?_⟩
          rw [wadd _ k rfl (by omega), wadd _ (rcount x (x.devices.getD i.toNat (dfl .Dev)).live (x.devices.getD (IntKind.i64.wrap (BitVec.ofInt IntKind.i64.bits i ^^^ BitVec.ofInt IntKind.i64.bits 1).toNat).toNat (dfl .Dev)).live (x.archive.rounds.take k)) rfl (by omega), hs]
          try rfl
        · rw [ite_ff] at hb3
          rw [rstep_miss hns hb3] at hs
          refine W.skip ?_
          refine W.reg X [] [] [2, 5, 6, 7, 34, 35, 36] [] rfl ⟨⟩ ?_
          refine ⟨k + 1, by omega, by omega, ?_⟩
          rw [wadd _ k rfl (by omega), hs]
          try rfl
    · try simp only [nb, inr_t, inr_f, isEmpty_t] at hb1
      refine W.exit ?_
      refine W.seq ?_
      refine W.reg X [] [] [4] [] rfl ⟨⟩ ?_
      refine W.ret ?_
      exact Fin.ret rfl ⟨by rw [List.take_of_length_le hb1, sentRecv, if_pos hpk, hx2], ⟨⟩⟩
theorem c_spec_SentIsReceived (x : Wld) (i : Int) (hsz : size_Wld x ≤ 1048576) : Sound ty Try.prog 5 [.agg (dec_Wld x), .a (.lit (.int .i64 i))] [.a (.lit (.bool (sentRecv x i)))] := by
  refine Sound.of X Try.call5 Try.func5 rfl rfl (by decide) Try.ntmps5 (by simp) ?_
  intro zb
  have hd : x.devices.length ≤ 1048576 := dev_le hsz
  have hrl : x.archive.rounds.length ≤ 1048576 := rounds_le hsz
  refine W.seq ?_
  refine W.reg X [] [] [1, 2] [] rfl ⟨⟩ ?_
  refine W.seq ?_
  refine W.seq ?_
  refine W.reg X [] [(15, ⟨false, [.a (.lit (.bool (pairOK x i)))]⟩)] [1, 2, 16] [] rfl (by (repeat' (first | with_reducible exact AllP.nil | with_reducible refine AllP.mk ?_ ?_ | with_reducible apply And.intro)) <;> skip; (iterate 1 (all_goals try (first | exact (c_spec_l37Pair x i (by first | assumption | omega | (simp; done) | (simp; omega))))))) ?_
  refine W.cond rfl (fun hb0 => ?_) (fun hb0 => ?_)
  · have hpk : pairOK x i = false := by simpa using hb0
    refine W.seq ?_
    refine W.reg X [] [] [4] [] rfl ⟨⟩ ?_
    refine W.ret ?_
    exact Fin.ret rfl ⟨by rw [sentRecv, if_neg (by rw [hpk]; decide)], ⟨⟩⟩
  · have hpk : pairOK x i = true := by simpa using hb0
    obtain ⟨hi0, hi1, hi2, hi3⟩ := pair_lt hpk
    have hx := xorN i.toNat (by omega)
    rw [← hi3] at hx
    have hx2 : (IntKind.i64.wrap (BitVec.ofInt IntKind.i64.bits i ^^^ BitVec.ofInt IntKind.i64.bits 1).toNat).toNat = i.toNat ^^^ 1 := by rw [hx]; rfl
    have hin := inbox_le hsz (k := (IntKind.i64.wrap (BitVec.ofInt IntKind.i64.bits i ^^^ BitVec.ofInt IntKind.i64.bits 1).toNat).toNat) (by rw [hx2]; exact hi2)
    have hsb := lsz_len (live_le (lsz_cli hsz hi1)).1
    refine W.skip ?_
    refine W.seq ?_
    refine W.reg X [] [] [1, 2, 5] [] rfl (by (repeat' (first | exact True.intro | apply And.intro)) <;> first | (intros; omega)) ?_
    refine W.seq ?_
    refine W.reg X [] [] [1, 2, 5, 6] [] rfl (by (repeat' (first | exact True.intro | apply And.intro)) <;> first | (intros; omega)) ?_
    refine W.seq ?_
    refine W.seq ?_
    refine W.reg X [] [] [1, 2, 5, 6, 7] [] rfl ⟨⟩ ?_
    refine W.block ?_
    refine W.loopO (fun k => k ≤ x.archive.rounds.length) (fun k : Nat => [(6, .one (.a (.lit (.int .i64 ((rcount x (x.devices.getD i.toNat (dfl .Dev)).live (x.devices.getD (IntKind.i64.wrap (BitVec.ofInt IntKind.i64.bits i ^^^ BitVec.ofInt IntKind.i64.bits 1).toNat).toNat (dfl .Dev)).live (x.archive.rounds.take k) : Nat) : Int))))), (7, .one (.a (.lit (.int .i64 k))))]) (fun k => []) (fun k => x.archive.rounds.length - k) 0 (fun k => rfl) (Nat.zero_le _) rfl ?_
    intro k hk
    refine W.seq ?_
    refine W.seq ?_
    refine W.reg X [] [] [1, 2, 5, 6, 7, 44] [] rfl ⟨⟩ ?_
    refine W.cond rfl (fun hb1 => ?_) (fun hb1 => ?_)
    · try simp only [nb, inr_t, inr_f, isEmpty_t] at hb1
      have hkl := hb1.1
      have hs := rcount_step x (x.devices.getD i.toNat (dfl .Dev)).live (x.devices.getD (IntKind.i64.wrap (BitVec.ofInt IntKind.i64.bits i ^^^ BitVec.ofInt IntKind.i64.bits 1).toNat).toNat (dfl .Dev)).live x.archive.rounds k hkl
      have hle := rcount_le x (x.devices.getD i.toNat (dfl .Dev)).live (x.devices.getD (IntKind.i64.wrap (BitVec.ofInt IntKind.i64.bits i ^^^ BitVec.ofInt IntKind.i64.bits 1).toNat).toNat (dfl .Dev)).live x.archive.rounds k
      have har := lsz_ar hsz k hkl
      refine W.skip ?_
      refine W.seq ?_
      refine W.block ?_
      refine W.seq ?_
      refine W.reg X [] [] [1, 2, 5, 6, 7, 8] [] rfl (by (repeat' (first | exact True.intro | apply And.intro)) <;> first | (intros; omega)) ?_
      refine W.seq ?_
      refine W.seq ?_
      refine W.draw X [] [] [1, 2, 5, 6, 7, 8, 63] [] 11 MO (by kernel_rfl) rfl (by (repeat' (first | exact True.intro | apply And.intro)) <;> first | (intros; omega)) ?_
      refine W.cond rfl (fun hb2 => ?_) (fun hb2 => ?_)
      · try simp only [nb, inr_t, inr_f, isEmpty_t] at hb2
        rw [rstep_skip (Or.inl hb2)] at hs
        refine W.exit ?_
        refine W.reg X [] [] [1, 2, 5, 6, 7] [] rfl ⟨⟩ ?_
        refine ⟨k + 1, by omega, by omega, ?_⟩
        rw [wadd _ k rfl (by omega), hs]
        try rfl
      · try simp only [nb, inr_t, inr_f, isEmpty_t] at hb2
        have hns : ¬ ((x.archive.rounds.getD k (dfl .ARound)).round < (x.devices.getD (IntKind.i64.wrap (BitVec.ofInt IntKind.i64.bits i ^^^ BitVec.ofInt IntKind.i64.bits 1).toNat).toNat (dfl .Dev)).live.next ∨ (x.devices.getD i.toNat (dfl .Dev)).live.submitted.length ≤ rcount x (x.devices.getD i.toNat (dfl .Dev)).live (x.devices.getD (IntKind.i64.wrap (BitVec.ofInt IntKind.i64.bits i ^^^ BitVec.ofInt IntKind.i64.bits 1).toNat).toNat (dfl .Dev)).live (x.archive.rounds.take k)) := by omega
        refine W.skip ?_
        refine W.seq ?_
        refine W.draw X [] [(69, ⟨false, [.a (.lit (.int .i64 (dirn ((x.devices.getD i.toNat (dfl .Dev)).live))))]⟩), (72, ⟨false, [.a (.lit (.int .i64 (mrow ((x.devices.getD i.toNat (dfl .Dev)).live.key) ((x.archive.rounds.getD k (dfl .ARound)).round) (dirn (x.devices.getD i.toNat (dfl .Dev)).live) x.rows)))]⟩)] [1, 2, 5, 6, 7, 8, 9] [] 10 MO (by kernel_rfl) rfl (by (repeat' (first | with_reducible exact AllP.nil | with_reducible refine AllP.mk ?_ ?_ | with_reducible apply And.intro)) <;> skip; (iterate 2 (all_goals try (first | exact (c_spec_l29Direction ((x.devices.getD i.toNat (dfl .Dev)).live)) | exact (c_spec_MailboxRow ((x.devices.getD i.toNat (dfl .Dev)).live.key) ((x.archive.rounds.getD k (dfl .ARound)).round) (dirn (x.devices.getD i.toNat (dfl .Dev)).live) x.rows))))) ?_
        refine W.seq ?_
        refine W.reg X [] [] [1, 2, 5, 6, 7, 8, 9, 10] [] rfl (by (repeat' (first | exact True.intro | apply And.intro))) ?_
        refine W.seq ?_
        refine W.reg X [] [] [1, 2, 5, 6, 7, 8, 9, 10] [] rfl ⟨⟩ ?_
        refine W.seq ?_
        refine W.reg X [] [(80, ⟨true, [.a (.sl .u8 (rowAt ((x.archive.rounds.getD k (dfl .ARound)).db) (mrow (x.devices.getD i.toNat (dfl .Dev)).live.key (x.archive.rounds.getD k (dfl .ARound)).round (dirn (x.devices.getD i.toNat (dfl .Dev)).live) x.rows))), .a (.lit (.bool (rowOK ((x.archive.rounds.getD k (dfl .ARound)).db) (mrow (x.devices.getD i.toNat (dfl .Dev)).live.key (x.archive.rounds.getD k (dfl .ARound)).round (dirn (x.devices.getD i.toNat (dfl .Dev)).live) x.rows))))]⟩)] [1, 2, 5, 6, 7, 10, 11, 12] [] rfl (by (repeat' (first | with_reducible exact AllP.nil | with_reducible refine AllP.mk ?_ ?_ | with_reducible apply And.intro)) <;> skip; (iterate 1 (all_goals try (first | exact (c_spec_ReadRow ((x.archive.rounds.getD k (dfl .ARound)).db) (mrow (x.devices.getD i.toNat (dfl .Dev)).live.key (x.archive.rounds.getD k (dfl .ARound)).round (dirn (x.devices.getD i.toNat (dfl .Dev)).live) x.rows) (by first | assumption | omega | (simp; done) | (simp; omega))))))) ?_
        refine W.seq ?_
        refine W.reg X [] [(87, ⟨false, [.a (.sl .u8 (mcell ({ (x.devices.getD i.toNat (dfl .Dev)).live with sent := ((rcount x (x.devices.getD i.toNat (dfl .Dev)).live (x.devices.getD (IntKind.i64.wrap (BitVec.ofInt IntKind.i64.bits i ^^^ BitVec.ofInt IntKind.i64.bits 1).toNat).toNat (dfl .Dev)).live (x.archive.rounds.take k) : Nat) : Int) } : Cli) ({ (x.devices.getD i.toNat (dfl .Dev)).live with sent := ((rcount x (x.devices.getD i.toNat (dfl .Dev)).live (x.devices.getD (IntKind.i64.wrap (BitVec.ofInt IntKind.i64.bits i ^^^ BitVec.ofInt IntKind.i64.bits 1).toNat).toNat (dfl .Dev)).live (x.archive.rounds.take k) : Nat) : Int) } : Cli).sent))]⟩), (88, ⟨false, [.a (.lit (.bool ((rowAt (x.archive.rounds.getD k (dfl .ARound)).db (mrow (x.devices.getD i.toNat (dfl .Dev)).live.key (x.archive.rounds.getD k (dfl .ARound)).round (dirn (x.devices.getD i.toNat (dfl .Dev)).live) x.rows)) == (mcell ({ (x.devices.getD i.toNat (dfl .Dev)).live with sent := ((rcount x (x.devices.getD i.toNat (dfl .Dev)).live (x.devices.getD (IntKind.i64.wrap (BitVec.ofInt IntKind.i64.bits i ^^^ BitVec.ofInt IntKind.i64.bits 1).toNat).toNat (dfl .Dev)).live (x.archive.rounds.take k) : Nat) : Int) } : Cli) ((rcount x (x.devices.getD i.toNat (dfl .Dev)).live (x.devices.getD (IntKind.i64.wrap (BitVec.ofInt IntKind.i64.bits i ^^^ BitVec.ofInt IntKind.i64.bits 1).toNat).toNat (dfl .Dev)).live (x.archive.rounds.take k) : Nat) : Int)))))]⟩)] [1, 2, 5, 6, 7, 89] [] rfl (by (repeat' (first | with_reducible exact AllP.nil | with_reducible refine AllP.mk ?_ ?_ | with_reducible apply And.intro)) <;> skip; (iterate 2 (all_goals try (first | exact fun _ => (c_spec_l29Cell ({ (x.devices.getD i.toNat (dfl .Dev)).live with sent := ((rcount x (x.devices.getD i.toNat (dfl .Dev)).live (x.devices.getD (IntKind.i64.wrap (BitVec.ofInt IntKind.i64.bits i ^^^ BitVec.ofInt IntKind.i64.bits 1).toNat).toNat (dfl .Dev)).live (x.archive.rounds.take k) : Nat) : Int) } : Cli) (by show (0 : Int) ≤ ((rcount x (x.devices.getD i.toNat (dfl .Dev)).live (x.devices.getD (IntKind.i64.wrap (BitVec.ofInt IntKind.i64.bits i ^^^ BitVec.ofInt IntKind.i64.bits 1).toNat).toNat (dfl .Dev)).live (x.archive.rounds.take k) : Nat) : Int); omega) (by show ((rcount x (x.devices.getD i.toNat (dfl .Dev)).live (x.devices.getD (IntKind.i64.wrap (BitVec.ofInt IntKind.i64.bits i ^^^ BitVec.ofInt IntKind.i64.bits 1).toNat).toNat (dfl .Dev)).live (x.archive.rounds.take k) : Nat) : Int) < ((x.devices.getD i.toNat (dfl .Dev)).live.submitted.length : Int); omega)) | exact fun _ => (c_spec_EqualBytes (rowAt (x.archive.rounds.getD k (dfl .ARound)).db (mrow (x.devices.getD i.toNat (dfl .Dev)).live.key (x.archive.rounds.getD k (dfl .ARound)).round (dirn (x.devices.getD i.toNat (dfl .Dev)).live) x.rows)) (mcell ({ (x.devices.getD i.toNat (dfl .Dev)).live with sent := ((rcount x (x.devices.getD i.toNat (dfl .Dev)).live (x.devices.getD (IntKind.i64.wrap (BitVec.ofInt IntKind.i64.bits i ^^^ BitVec.ofInt IntKind.i64.bits 1).toNat).toNat (dfl .Dev)).live (x.archive.rounds.take k) : Nat) : Int) } : Cli) ((rcount x (x.devices.getD i.toNat (dfl .Dev)).live (x.devices.getD (IntKind.i64.wrap (BitVec.ofInt IntKind.i64.bits i ^^^ BitVec.ofInt IntKind.i64.bits 1).toNat).toNat (dfl .Dev)).live (x.archive.rounds.take k) : Nat) : Int))))))) ?_
        refine W.cond rfl (fun hb3 => ?_) (fun hb3 => ?_)
        · rw [ite_ff] at hb3
          rw [rstep_hit hns hb3] at hs
          refine W.reg X [] [] [1, 2, 5, 6, 7] [] rfl ⟨⟩ ?_
          refine W.reg X [] [] [1, 2, 5, 6, 7] [] rfl ⟨⟩ ?_
          refine ⟨k + 1, by omega, by omega, ?_⟩
          rw [wadd _ k rfl (by omega), wadd _ (rcount x (x.devices.getD i.toNat (dfl .Dev)).live (x.devices.getD (IntKind.i64.wrap (BitVec.ofInt IntKind.i64.bits i ^^^ BitVec.ofInt IntKind.i64.bits 1).toNat).toNat (dfl .Dev)).live (x.archive.rounds.take k)) rfl (by omega), hs]
          try rfl
        · rw [ite_ff] at hb3
          rw [rstep_miss hns hb3] at hs
          refine W.skip ?_
          refine W.reg X [] [] [1, 2, 5, 6, 7] [] rfl ⟨⟩ ?_
          refine ⟨k + 1, by omega, by omega, ?_⟩
          rw [wadd _ k rfl (by omega), hs]
          try rfl
    · try simp only [nb, inr_t, inr_f, isEmpty_t] at hb1
      have hfin : rcount x (x.devices.getD i.toNat (dfl .Dev)).live (x.devices.getD (IntKind.i64.wrap (BitVec.ofInt IntKind.i64.bits i ^^^ BitVec.ofInt IntKind.i64.bits 1).toNat).toNat (dfl .Dev)).live x.archive.rounds = rcount x (x.devices.getD i.toNat (dfl .Dev)).live (x.devices.getD (IntKind.i64.wrap (BitVec.ofInt IntKind.i64.bits i ^^^ BitVec.ofInt IntKind.i64.bits 1).toNat).toNat (dfl .Dev)).live (x.archive.rounds.take k) := by
        rcases Nat.lt_or_ge k x.archive.rounds.length with h | h
        · exact rcount_done _ _ _ _ _ (by omega)
        · rw [List.take_of_length_le h]
      refine W.exit ?_
      refine W.seq ?_
      refine W.reg X [] [] [4] [] rfl ⟨⟩ ?_
      refine W.ret ?_
      exact Fin.ret rfl ⟨by rw [sentRecv, if_pos hpk, ← hx2, hfin], ⟨⟩⟩
end Go.Proofs.Ythejghgjejhgoaa.G
namespace Go.Proofs.Ythejghgjejhgoaa.G
set_option linter.all false
open Go.RowKit L D
set_option maxRecDepth 100000
theorem c_FnExactSentIsReceived (x0 : Wld) (h_x0 : (wf_Wld) x0) (x1 : Int) (i_x1 : I64 x1) : Sound ty Try.prog 3 [.agg (dec_Wld x0), .a (.lit (.int .i64 x1))] [.a (.lit (.bool true))] := by
  refine Sound.of X Try.call3 Try.func3 rfl rfl (by decide) Try.ntmps3 (by simp) ?_
  intro zb
  refine W.seq ?_
  refine W.reg X [] [] [1, 2] [] rfl ⟨⟩ ?_
  refine W.seq ?_
  refine W.reg X [] [] [1, 2, 5] [] rfl ⟨⟩ ?_
  refine W.seq ?_
  refine W.reg X [] [(11, ⟨false, [.a (.lit (.int .i64 (szr (1048576) (size_Wld x0))))]⟩)] [1, 2, 5] [] rfl ⟨c_szWorld x0 (1048576) (by omega) (by omega), ⟨⟩⟩ ?_
  refine W.seq ?_
  refine W.seq ?_
  refine W.reg X [] [] [1, 2, 13] [] rfl ⟨⟩ ?_
  refine W.cond rfl (fun hb0 => ?_) (fun hb0 => ?_)
  · try simp only [nb] at hb0
    refine W.seq ?_
    refine W.reg X [] [] [4] [] rfl ⟨⟩ ?_
    refine W.ret ?_
    exact Fin.ret rfl ⟨rfl, ⟨⟩⟩
  · try simp only [nb] at hb0
    obtain ⟨e0, e0'⟩ := szr_pos hb0
    rw [e0]
    have hsz : size_Wld x0 ≤ 1048576 := by omega
    have hmx := mnv_le_Wld x0
    have hdev := dev_le hsz
    have hsrv := srv_le hsz
    refine W.skip ?_
    refine W.seq ?_
    refine W.reg X [(15, 225)] [(15, ⟨true, [.agg (dec_Wld x0)]⟩), (17, ⟨false, [.a (.lit (.bool (sentRecv x0 x1)))]⟩)] [1, 2, 6] [] rfl ⟨c_spec_SentIsReceived x0 x1 hsz, c_toWorld x0 (by omega), ⟨⟩⟩ ?_
    refine W.seq ?_
    refine W.reg X [(19, 275)] [(19, ⟨true, [.agg (dec_Wld x0)]⟩)] [1, 2, 6, 7] [] rfl ⟨c_toWorld x0 (by omega), ⟨⟩⟩ ?_
    refine W.seq ?_
    refine W.reg X [] [(22, ⟨false, [.a (.lit (.bool (sentRecv x0 x1)))]⟩)] [2, 6, 7, 8] [] rfl ⟨c_impl_SentIsReceived x0 x1 hsz, ⟨⟩⟩ ?_
    refine W.seq ?_
    refine W.seq ?_
    refine W.reg X [] [] [2, 7, 25] [] rfl ⟨⟩ ?_
    refine W.cond rfl (fun hb1 => ?_) (fun hb1 => ?_)
    · exact absurd hb1 (by first | (simp; done) | (simp; omega))
    · clear hb1
      refine W.skip ?_
      refine W.seq ?_
      refine W.seq ?_
      refine W.draw X [(28, 325)] [(28, ⟨true, [.agg (dec_Wld x0)]⟩), (29, ⟨false, [.a (.lit (.bool true))]⟩)] [30] [] 5 MO (by kernel_rfl) rfl ⟨c_eqWorld x0, c_toWorld x0 (by omega), ⟨⟩⟩ ?_
      refine W.cond rfl (fun hb2 => ?_) (fun hb2 => ?_)
      · exact absurd hb2 (by first | (simp; done) | (simp; omega))
      · clear hb2
        refine W.skip ?_
        refine W.seq ?_
        refine W.reg X [] [] [4] [] rfl ⟨⟩ ?_
        refine W.ret ?_
        exact Fin.ret rfl ⟨rfl, ⟨⟩⟩
end Go.Proofs.Ythejghgjejhgoaa.G
