/-
  FnExactAuditWorld, walked by the symbolic machine: it returns true.
-/
import Derived.Test.YtlocnjfgeifmnaaGreatZAuditWorldM8
import Derived.ProofKit
import Derived.Lib.AppendZeros
import Derived.Test.YtlocnjfgeifmnaaGreatZAuditWorldM7
namespace Go.Proofs.YtlocnjfgeifmnaaGreat.G
set_option linter.all false
open Go.RowKit L D
set_option maxRecDepth 100000
theorem grow_ret {w w' : World} {t : Tag} {g n : Nat} {c : Array Value} (hg : g = w.heap.size) (hb : Below w.heap.size w w') (hc : w'.heap[g]? = some (.cells c (ty t) (0, 0))) (hs : c.size = n * kk t) (hn : n ≤ maxLen) :
    Ret ty w [.a (.sl t [])] (.returned (.slice (some ⟨g, 0, none⟩) 0 n)) w' := by
  have hown : Own w.heap.size w' (g :: ([] : List (List Nat)).flatten) := ⟨by simp, fun b hbm => by simp at hbm; omega, fun b hbm => by simp at hbm; subst hbm; exact ⟨_, _, hc⟩⟩
  have hp : Part (kk t) (rd t) w.heap.size (ty t) w' g n ([] : List (T t)) [] := ⟨⟨c, hc, hs⟩, ⟨rfl, by simp⟩, hown, hn⟩
  have hB := Part.bld (fine t) hp (Nat.zero_le _)
  exact ⟨_, _, rfl, hb, hown, _, [], hB, rfl, by simp⟩
theorem nil_ret {w : World} {t : Tag} : Ret ty w [.a (.sl t [])] (.returned nilv) w := by
  refine ⟨_, [], rfl, Below.refl _ _, Own.nil _ _, [], [], ⟨[], [], ?_, rfl, by simp, rfl, Own.nil _ _⟩, rfl, rfl⟩
  exact ⟨by simp, Or.inl ⟨rfl, rfl⟩⟩
theorem Grow_int (w : World) (n : Nat) (h1 : n ≤ 1099511627776) : Calls Tryz.prog 279 #[nilv, .int .i64 n] w (Ret ty w [.a (.sl .int [])]) := by
  have hEl : El Tryz.prog ty .int := El_all _ (by decide)
  cases hq : Tryz.prog.info? (ty .int) with
  | none => simp [El, hq] at hEl
  | some inf =>
    simp [El, hq] at hEl
    obtain ⟨z1, z2, z3⟩ := hEl
    by_cases h0 : n = 0
    · subst h0
      go_enter Tryz.func279, Tryz.ntmps279
      go_wp2
      go_ret
      exact nil_ret
    · have hsz : inf.size = 1 := z2
      have hby : inf.bytes ≤ 8 := by rw [z3]; decide
      have hmul : n * inf.bytes ≤ 8796093022208 := Nat.le_trans (Nat.mul_le_mul (show n ≤ 1099511627776 from h1) hby) (by decide)
      have hrun := Lib.run_append_nil_zeros (P := Tryz.prog) w 27 3 27 (ty .int) inf (zval .int) .i64 .i64 (X.kind 27).1 (X.kind 3) hq z1 n (by omega) (by omega) (by omega) (by omega)
      have hge := grownCap_ge w n 0 (ty .int)
      have hmx := grownCap_le_maxLen w n 0 (ty .int) (by unfold maxLen; omega)
      generalize grownCap w n 0 (ty .int) = g at hrun hge hmx
      go_enter Tryz.func279, Tryz.ntmps279
      go_wp2_with (at_builtin; refine Lib.wpList_append_run _ rfl _ _ _ _ rfl _ _ rfl rfl _ _ hrun ?_)
      go_ret
      refine grow_ret (t := .int) rfl ((Below.refl _ _).drew.alloc (Nat.le_refl _) _) (alloc_top rfl) ?_ hmx
      rw [Array.size_append, size_zeroCells, size_zeroCells, ← Nat.add_mul, show n + (g - n) = g by omega]
      rfl
theorem c_slices_Grow_int_int (n : Nat) (h1 : n ≤ 1099511627776) : Sound ty Tryz.prog 279 [.a (.lit nilv), .a (.lit (.int .i64 n))] [.a (.sl .int [])] := by
  refine ⟨fun args w => Tryz.call279 args w, fun w us ha => ?_⟩
  match us, ha with
  | [u1, u2], ⟨⟨_, e1⟩, ⟨_, e2⟩, _⟩ =>
    obtain ⟨e1, _⟩ := e1
    obtain ⟨e2, _⟩ := e2
    rw [e1, e2]
    exact Grow_int w n h1

end Go.Proofs.YtlocnjfgeifmnaaGreat.G
namespace Go.Proofs.YtlocnjfgeifmnaaGreat.G
set_option linter.all false
open Go.RowKit L D
set_option maxRecDepth 100000
theorem c_impl_InRange (x lo hi : Int) : Sound ty Tryz.prog 73 [.a (.lit (.int .i64 x)), .a (.lit (.int .i64 lo)), .a (.lit (.int .i64 hi))] [.a (.lit (.bool (inr x lo hi)))] := by
  refine Sound.of X Tryz.call73 Tryz.func73 rfl rfl (by decide) Tryz.ntmps73 (by simp) ?_
  intro zb
  refine W.seq ?_
  refine W.reg X [] [] [0, 1, 2] [] rfl ⟨⟩ ?_
  refine W.seq ?_
  refine W.reg X [] [] [6] [] rfl ⟨⟩ ?_
  refine W.ret ?_
  exact Fin.ret rfl ⟨rfl, ⟨⟩⟩
theorem c_spec_l1In (x lo hi : Int) : Sound ty Tryz.prog 71 [.a (.lit (.int .i64 x)), .a (.lit (.int .i64 lo)), .a (.lit (.int .i64 hi))] [.a (.lit (.bool (inr x lo hi)))] := by
  refine Sound.of X Tryz.call71 Tryz.func71 rfl rfl (by decide) Tryz.ntmps71 (by simp) ?_
  intro zb
  refine W.seq ?_
  refine W.reg X [] [] [0, 1, 2] [] rfl ⟨⟩ ?_
  refine W.seq ?_
  refine W.reg X [] [] [6] [] rfl ⟨⟩ ?_
  refine W.ret ?_
  exact Fin.ret rfl ⟨rfl, ⟨⟩⟩
theorem c_impl_Mod (p q : Int) (h1 : 1 ≤ q) (h2 : q ≤ 1000000000000) : Sound ty Tryz.prog 278 [.a (.lit (.int .i64 p)), .a (.lit (.int .i64 q))] [.a (.lit (.int .i64 (p % q)))] := by
  refine Sound.of X Tryz.call278 Tryz.func278 rfl rfl (by decide) Tryz.ntmps278 (by simp) ?_
  intro zb
  refine W.seq ?_
  refine W.reg X [] [] [0, 1] [] rfl ⟨⟩ ?_
  refine W.seq ?_
  refine W.seq ?_
  refine W.reg X [] [(6, ⟨false, [.a (.lit (.bool _))]⟩)] [0, 1, 7] [] rfl (by (repeat' (first | with_reducible exact AllP.nil | with_reducible refine AllP.mk ?_ ?_ | with_reducible apply And.intro)) <;> skip; (iterate 1 (all_goals try (first | exact (c_impl_InRange _ _ _))))) ?_
  refine W.cond rfl (fun hb0 => ?_) (fun hb0 => ?_)
  · try simp only [nb, inr_t, inr_f, isEmpty_t] at hb0
    omega
  · try simp only [nb, inr_t, inr_f, isEmpty_t] at hb0
    refine W.skip ?_
    refine W.seq ?_
    refine W.reg X [] [] [4] [] rfl (by (repeat' (first | exact True.intro | apply And.intro)) <;> first | (intros; omega)) ?_
    refine W.ret ?_
    exact Fin.ret rfl ⟨by rw [md_eq p q h1 h2], ⟨⟩⟩
theorem c_impl_Hash (l : List Int) (hl : l.length ≤ 16777216) : Sound ty Tryz.prog 228 [.a (.sl .int l)] [.a (.lit (.int .i64 (hsh l)))] := by
  refine Sound.of X Tryz.call228 Tryz.func228 rfl rfl (by decide) Tryz.ntmps228 (by simp) ?_
  intro zb
  refine W.seq ?_
  refine W.reg X [] [] [0] [] rfl ⟨⟩ ?_
  refine W.seq ?_
  refine W.reg X [] [] [0, 3] [] rfl ⟨⟩ ?_
  refine W.seq ?_
  refine W.seq ?_
  refine W.reg X [] [] [3, 6, 7, 8] [] rfl ⟨⟩ ?_
  refine W.block ?_
  refine W.loopO (fun k => k ≤ l.length) (fun k : Nat => [(3, .one (.a (.lit (.int .i64 (hsh (l.take k)))))), (8, .one (.a (.lit (.int .i64 k))))]) (fun k => []) (fun k => l.length - k) 0 (fun k => rfl) (Nat.zero_le _) rfl ?_
  intro k hk
  refine W.seq ?_
  refine W.reg X [] [] [3, 6, 7, 8, 9] [] rfl ⟨⟩ ?_
  refine W.seq ?_
  refine W.cond rfl (fun hb0 => ?_) (fun hb0 => ?_)
  · try simp only [nb, inr_t, inr_f, isEmpty_t] at hb0
    have hs := hsh_step l k hb0
    refine W.skip ?_
    refine W.seq ?_
    refine W.block ?_
    refine W.seq ?_
    refine W.reg X [] [] [3, 5, 6, 7, 8] [] rfl (by (repeat' (first | exact True.intro | apply And.intro)) <;> first | (intros; omega)) ?_
    refine W.reg X [] [(15, ⟨false, [.a (.lit (.int .i64 _))]⟩)] [3, 6, 7, 8] [] rfl (by (repeat' (first | with_reducible exact AllP.nil | with_reducible refine AllP.mk ?_ ?_ | with_reducible apply And.intro)) <;> skip; (iterate 1 (all_goals try (first | exact (c_impl_Mod _ _ (by first | assumption | omega | (simp; done) | (simp; omega)) (by first | assumption | omega | (simp; done) | (simp; omega)))))); all_goals (first | (intros; omega))) ?_
    refine W.reg X [] [] [3, 6, 7, 8] [] rfl ⟨⟩ ?_
    refine ⟨k + 1, by omega, by omega, ?_⟩
    rw [wadd _ k rfl (by omega), hs]
    try rfl
  · try simp only [nb, inr_t, inr_f, isEmpty_t] at hb0
    refine W.exit ?_
    refine W.seq ?_
    refine W.reg X [] [] [2] [] rfl ⟨⟩ ?_
    refine W.ret ?_
    exact Fin.ret rfl ⟨by rw [List.take_of_length_le hb0], ⟨⟩⟩
theorem c_spec_Mod (p q : Int) (h1 : 1 ≤ q) (h2 : q ≤ 1000000000000) : Sound ty Tryz.prog 268 [.a (.lit (.int .i64 p)), .a (.lit (.int .i64 q))] [.a (.lit (.int .i64 (p % q)))] := by
  refine Sound.of X Tryz.call268 Tryz.func268 rfl rfl (by decide) Tryz.ntmps268 (by simp) ?_
  intro zb
  refine W.seq ?_
  refine W.reg X [] [] [0, 1] [] rfl ⟨⟩ ?_
  refine W.seq ?_
  refine W.seq ?_
  refine W.reg X [] [(6, ⟨false, [.a (.lit (.bool _))]⟩)] [0, 1, 7] [] rfl (by (repeat' (first | with_reducible exact AllP.nil | with_reducible refine AllP.mk ?_ ?_ | with_reducible apply And.intro)) <;> skip; (iterate 1 (all_goals try (first | exact (c_spec_l1In _ _ _))))) ?_
  refine W.cond rfl (fun hb0 => ?_) (fun hb0 => ?_)
  · try simp only [nb, inr_t, inr_f, isEmpty_t] at hb0
    omega
  · try simp only [nb, inr_t, inr_f, isEmpty_t] at hb0
    refine W.skip ?_
    refine W.seq ?_
    refine W.reg X [] [] [4] [] rfl (by (repeat' (first | exact True.intro | apply And.intro)) <;> first | (intros; omega)) ?_
    refine W.ret ?_
    exact Fin.ret rfl ⟨by rw [md_eq p q h1 h2], ⟨⟩⟩
theorem c_spec_Hash (l : List Int) (hl : l.length ≤ 16777216) : Sound ty Tryz.prog 216 [.a (.sl .int l)] [.a (.lit (.int .i64 (hsh l)))] := by
  refine Sound.of X Tryz.call216 Tryz.func216 rfl rfl (by decide) Tryz.ntmps216 (by simp) ?_
  intro zb
  refine W.seq ?_
  refine W.reg X [] [] [0] [] rfl ⟨⟩ ?_
  refine W.seq ?_
  refine W.reg X [] [] [0, 3] [] rfl ⟨⟩ ?_
  refine W.seq ?_
  refine W.seq ?_
  refine W.reg X [] [] [0, 3, 4] [] rfl ⟨⟩ ?_
  refine W.block ?_
  refine W.loopO (fun k => k ≤ l.length) (fun k : Nat => [(3, .one (.a (.lit (.int .i64 (hsh (l.take k)))))), (4, .one (.a (.lit (.int .i64 k))))]) (fun k => []) (fun k => l.length - k) 0 (fun k => rfl) (Nat.zero_le _) rfl ?_
  intro k hk
  refine W.seq ?_
  refine W.seq ?_
  refine W.reg X [] [] [0, 3, 4, 8] [] rfl ⟨⟩ ?_
  refine W.cond rfl (fun hb0 => ?_) (fun hb0 => ?_)
  · try simp only [nb, inr_t, inr_f, isEmpty_t] at hb0
    have hs := hsh_step l k hb0
    refine W.skip ?_
    refine W.seq ?_
    refine W.block ?_
    refine W.reg X [] [(17, ⟨false, [.a (.lit (.int .i64 _))]⟩)] [0, 3, 4] [] rfl (by (repeat' (first | with_reducible exact AllP.nil | with_reducible refine AllP.mk ?_ ?_ | with_reducible apply And.intro)) <;> skip; (iterate 1 (all_goals try (first | exact (c_spec_Mod _ _ (by first | assumption | omega | (simp; done) | (simp; omega)) (by first | assumption | omega | (simp; done) | (simp; omega)))))); all_goals (first | (intros; omega))) ?_
    refine W.reg X [] [] [0, 3, 4] [] rfl ⟨⟩ ?_
    refine ⟨k + 1, by omega, by omega, ?_⟩
    rw [wadd _ k rfl (by omega), hs]
    try rfl
  · try simp only [nb, inr_t, inr_f, isEmpty_t] at hb0
    refine W.exit ?_
    refine W.seq ?_
    refine W.reg X [] [] [2] [] rfl ⟨⟩ ?_
    refine W.ret ?_
    exact Fin.ret rfl ⟨by rw [List.take_of_length_le hb0], ⟨⟩⟩
theorem c_slices_Concat_int_int (l : List (List Int)) (hl : l.length ≤ 1048576) (hs0 : (l.map List.length).sum ≤ 1099511627776) : Sound ty Tryz.prog 229 [.a (.sl (.sl .int) l)] [.a (.sl .int l.flatten)] := by
  refine Sound.of X Tryz.call229 Tryz.func229 rfl rfl (by decide) Tryz.ntmps229 (by simp) ?_
  intro zb
  refine W.seq ?_
  refine W.reg X [] [] [0] [] rfl ⟨⟩ ?_
  refine W.seq ?_
  refine W.reg X [] [] [0, 3] [] rfl ⟨⟩ ?_
  refine W.seq ?_
  refine W.seq ?_
  refine W.reg X [] [] [0, 3, 9, 10, 11] [] rfl ⟨⟩ ?_
  refine W.block ?_
  refine W.loopO (fun k => k ≤ l.length) (fun k : Nat => [(3, .one (.a (.lit (.int .i64 ((l.take k).map List.length).sum)))), (11, .one (.a (.lit (.int .i64 k))))]) (fun k => []) (fun k => l.length - k) 0 (fun k => rfl) (Nat.zero_le _) rfl ?_
  intro k hk
  have hle := take_sum_le l List.length k
  refine W.seq ?_
  refine W.reg X [] [] [0, 3, 9, 10, 11, 12] [] rfl ⟨⟩ ?_
  refine W.seq ?_
  refine W.cond rfl (fun hb0 => ?_) (fun hb0 => ?_)
  · try simp only [nb, inr_t, inr_f, isEmpty_t] at hb0
    have hs := lensum_step l (dfl (.sl .int)) k hb0
    have hle2 := take_sum_le l List.length (k + 1)
    rw [hs] at hle2
    refine W.skip ?_
    refine W.seq ?_
    refine W.block ?_
    refine W.seq ?_
    refine W.reg X [] [] [0, 3, 5, 9, 10, 11] [] rfl (by (repeat' (first | exact True.intro | apply And.intro)) <;> first | (intros; omega)) ?_
    refine W.seq ?_
    refine W.reg X [] [] [0, 3, 9, 10, 11] [] rfl (by (repeat' (first | exact True.intro | apply And.intro))) ?_
    refine W.seq ?_
    refine W.reg X [] [] [0, 3, 9, 10, 11, 20] [] rfl ⟨⟩ ?_
    refine W.cond rfl (fun hb1 => ?_) (fun hb1 => ?_)
    · try simp only [nb, inr_t, inr_f, isEmpty_t] at hb1
      rw [i64w (by omega)] at hb1
      omega
    · try simp only [nb, inr_t, inr_f, isEmpty_t] at hb1
      refine W.skip ?_
      refine W.reg X [] [] [0, 3, 9, 10, 11] [] rfl ⟨⟩ ?_
      refine ⟨k + 1, by omega, by omega, ?_⟩
      rw [wadd _ k rfl (by omega), hs]
      rw [i64w (by simp only [Int.toNat_natCast]; omega)]
      try rfl
  · try simp only [nb, inr_t, inr_f, isEmpty_t] at hb0
    rw [List.take_of_length_le hb0]
    refine W.exit ?_
    refine W.seq ?_
    refine W.reg X [] [(24, ⟨true, [.a (.sl .int [])]⟩), (300024, ⟨true, []⟩)] [0, 6] [] rfl (by (repeat' (first | with_reducible exact AllP.nil | with_reducible refine AllP.mk ?_ ?_ | with_reducible apply And.intro)) <;> skip; (iterate 1 (all_goals try (first | exact (c_slices_Grow_int_int _ hs0))))) ?_
    refine W.seq ?_
    refine W.seq ?_
    refine W.reg X [] [] [6, 25, 26, 27] [] rfl ⟨⟩ ?_
    refine W.block ?_
    refine W.loopO (fun k1 => k1 ≤ l.length) (fun k1 : Nat => [(27, .one (.a (.lit (.int .i64 k1))))]) (fun k1 => [(24, .arr .int (l.take k1).flatten)]) (fun k1 => l.length - k1) 0 (fun k1 => rfl) (Nat.zero_le _) rfl ?_
    intro k1 hk1
    have hle1 := flatten_len l k1
    refine W.seq ?_
    refine W.reg X [] [] [6, 25, 26, 27, 28] [] rfl ⟨⟩ ?_
    refine W.seq ?_
    refine W.cond rfl (fun hb2 => ?_) (fun hb2 => ?_)
    · try simp only [nb, inr_t, inr_f, isEmpty_t] at hb2
      have hs1 := flatten_step l (dfl (.sl .int)) k1 hb2
      have hle2 := flatten_len l (k1 + 1)
      rw [hs1, List.length_append] at hle2
      refine W.skip ?_
      refine W.seq ?_
      refine W.block ?_
      refine W.seq ?_
      refine W.reg X [] [] [6, 8, 25, 26, 27] [] rfl (by (repeat' (first | exact True.intro | apply And.intro)) <;> first | (intros; omega)) ?_
      refine W.reg X [(33, 24)] [] [6, 25, 26, 27] [] rfl (by (repeat' (first | exact True.intro | apply And.intro)) <;> first | exact rfl | (simp only [byt, maxLen, lens]; omega)) ?_
      refine W.reg X [] [] [6, 25, 26, 27] [] rfl ⟨⟩ ?_
      refine ⟨k1 + 1, by omega, by omega, ?_⟩
      rw [wadd _ k1 rfl (by omega), hs1]
      try rfl
    · try simp only [nb, inr_t, inr_f, isEmpty_t] at hb2
      refine W.exit ?_
      refine W.seq ?_
      refine W.reg X [] [] [2] [] rfl ⟨⟩ ?_
      refine W.ret ?_
      exact Fin.ret rfl ⟨by rw [List.take_of_length_le hb2], ⟨⟩⟩
theorem c_impl_KeyedHash (k : Int) (l : List Int) (hl : l.length ≤ 1048576) : Sound ty Tryz.prog 146 [.a (.lit (.int .i64 k)), .a (.sl .int l)] [.a (.lit (.int .i64 (kh k l)))] := by
  refine Sound.of X Tryz.call146 Tryz.func146 rfl rfl (by decide) Tryz.ntmps146 (by simp) ?_
  intro zb
  refine W.seq ?_
  refine W.reg X [] [] [0, 1] [] rfl ⟨⟩ ?_
  refine W.seq ?_
  refine W.reg X [] [(11, ⟨true, [.a (.sl .int [[k], l, [k]].flatten)]⟩), (12, ⟨false, [.a (.lit (.int .i64 (hsh [[k], l, [k]].flatten)))]⟩)] [4] [] rfl (by (repeat' (first | with_reducible exact AllP.nil | with_reducible refine AllP.mk ?_ ?_ | with_reducible apply And.intro)) <;> skip; (iterate 2 (all_goals try (first | exact (c_slices_Concat_int_int _ (by simp) (by simp; omega)) | exact (c_impl_Hash _ (by simp; omega))))); all_goals (first | exact rfl | exact ⟨rfl, El_all _ (by decide)⟩)) ?_
  refine W.ret ?_
  exact Fin.ret rfl ⟨rfl, ⟨⟩⟩
theorem c_spec_KeyedHash (k : Int) (l : List Int) (hl : l.length ≤ 1048576) : Sound ty Tryz.prog 130 [.a (.lit (.int .i64 k)), .a (.sl .int l)] [.a (.lit (.int .i64 (kh k l)))] := by
  refine Sound.of X Tryz.call130 Tryz.func130 rfl rfl (by decide) Tryz.ntmps130 (by simp) ?_
  intro zb
  refine W.seq ?_
  refine W.reg X [] [] [0, 1] [] rfl ⟨⟩ ?_
  refine W.seq ?_
  refine W.reg X [(8, 6), (11, 6)] [(12, ⟨false, [.a (.lit (.int .i64 (hsh ([k] ++ l ++ [k]))))]⟩)] [4] [] rfl (by (repeat' (first | with_reducible exact AllP.nil | with_reducible refine AllP.mk ?_ ?_ | with_reducible apply And.intro)) <;> skip; (iterate 1 (all_goals try (first | exact (c_spec_Hash _ (by simp; omega))))); all_goals (first | exact rfl | exact ⟨rfl, El_all _ (by decide)⟩ | (simp only [byt, maxLen, lens]; omega))) ?_
  refine W.ret ?_
  exact Fin.ret rfl ⟨rfl, ⟨⟩⟩
theorem c_impl_orOne (n : Int) : Sound ty Tryz.prog 198 [.a (.lit (.int .i64 n))] [.a (.lit (.int .i64 (or1 n)))] := by
  refine Sound.of X Tryz.call198 Tryz.func198 rfl rfl (by decide) Tryz.ntmps198 (by simp) ?_
  intro zb
  refine W.seq ?_
  refine W.reg X [] [] [0] [] rfl ⟨⟩ ?_
  refine W.seq ?_
  refine W.seq ?_
  refine W.reg X [] [] [0, 4] [] rfl ⟨⟩ ?_
  refine W.cond rfl (fun hb0 => ?_) (fun hb0 => ?_)
  · try simp only [nb, inr_t, inr_f, isEmpty_t] at hb0
    refine W.seq ?_
    refine W.reg X [] [] [2] [] rfl ⟨⟩ ?_
    refine W.ret ?_
    exact Fin.ret rfl ⟨by rw [or1, if_pos hb0], ⟨⟩⟩
  · try simp only [nb, inr_t, inr_f, isEmpty_t] at hb0
    refine W.skip ?_
    refine W.seq ?_
    refine W.reg X [] [] [2] [] rfl ⟨⟩ ?_
    refine W.ret ?_
    exact Fin.ret rfl ⟨by rw [or1, if_neg (by simpa using hb0)], ⟨⟩⟩
theorem c_spec_Max (a b : Int) : Sound ty Tryz.prog 189 [.a (.lit (.int .i64 a)), .a (.lit (.int .i64 b))] [.a (.lit (.int .i64 (if b > a then b else a)))] := by
  refine Sound.of X Tryz.call189 Tryz.func189 rfl rfl (by decide) Tryz.ntmps189 (by simp) ?_
  intro zb
  refine W.seq ?_
  refine W.reg X [] [] [0, 1] [] rfl ⟨⟩ ?_
  refine W.seq ?_
  refine W.seq ?_
  refine W.reg X [] [] [0, 1, 7] [] rfl ⟨⟩ ?_
  refine W.cond rfl (fun hb0 => ?_) (fun hb0 => ?_)
  · try simp only [nb, inr_t, inr_f, isEmpty_t] at hb0
    refine W.seq ?_
    refine W.reg X [] [] [4] [] rfl ⟨⟩ ?_
    refine W.ret ?_
    exact Fin.ret rfl ⟨by rw [if_pos (by omega)], ⟨⟩⟩
  · try simp only [nb, inr_t, inr_f, isEmpty_t] at hb0
    refine W.skip ?_
    refine W.seq ?_
    refine W.reg X [] [] [4] [] rfl ⟨⟩ ?_
    refine W.ret ?_
    exact Fin.ret rfl ⟨by rw [if_neg (by omega)], ⟨⟩⟩
theorem c_impl_ChildSeed (s k : Int) : Sound ty Tryz.prog 224 [.a (.lit (.int .i64 s)), .a (.lit (.int .i64 k))] [.a (.lit (.int .i64 (cs s k)))] := by
  refine Sound.of X Tryz.call224 Tryz.func224 rfl rfl (by decide) Tryz.ntmps224 (by simp) ?_
  intro zb
  refine W.seq ?_
  refine W.reg X [] [] [0, 1] [] rfl ⟨⟩ ?_
  refine W.seq ?_
  refine W.reg X [] [(9, ⟨false, [.a (.lit (.int .i64 _))]⟩)] [5] [] rfl (by (repeat' (first | with_reducible exact AllP.nil | with_reducible refine AllP.mk ?_ ?_ | with_reducible apply And.intro)) <;> skip; (iterate 1 (all_goals try (first | exact (c_impl_KeyedHash _ _ (by first | assumption | omega | (simp; done) | (simp; omega)))))); all_goals (first | exact ⟨rfl, El_all _ (by decide)⟩)) ?_
  refine W.seq ?_
  refine W.reg X [] [] [4] [] rfl (by (repeat' (first | exact True.intro | apply And.intro)) <;> first | (intros; omega)) ?_
  refine W.ret ?_
  exact Fin.ret rfl ⟨by rw [cs_eq (kh_range _ _).1 (kh_range _ _).2]; rfl, ⟨⟩⟩
theorem c_impl_StreamBytes (s n : Int) (h0 : 0 ≤ n) (h1 : n ≤ 400) : Sound ty Tryz.prog 227 [.a (.lit (.int .i64 s)), .a (.lit (.int .i64 n))] [.a (.sl .u8 (stream s n.toNat))] := by
  refine Sound.of X Tryz.call227 Tryz.func227 rfl rfl (by decide) Tryz.ntmps227 (by simp) ?_
  intro zb
  refine W.seq ?_
  refine W.reg X [] [] [0, 1] [] rfl ⟨⟩ ?_
  refine W.seq ?_
  refine W.seq ?_
  refine W.reg X [] [(8, ⟨false, [.a (.lit (.bool _))]⟩)] [0, 1, 9] [] rfl (by (repeat' (first | with_reducible exact AllP.nil | with_reducible refine AllP.mk ?_ ?_ | with_reducible apply And.intro)) <;> skip; (iterate 1 (all_goals try (first | exact (c_impl_InRange _ _ _))))) ?_
  refine W.cond rfl (fun hb0 => ?_) (fun hb0 => ?_)
  · try simp only [nb, inr_t, inr_f, isEmpty_t] at hb0
    omega
  · try simp only [nb, inr_t, inr_f, isEmpty_t] at hb0
    refine W.skip ?_
    refine W.seq ?_
    refine W.reg X [] [] [0, 1, 5] [] rfl (by (repeat' (first | exact True.intro | apply And.intro)) <;> first | exact rfl) ?_
    refine W.seq ?_
    refine W.seq ?_
    refine W.reg X [] [] [0, 5, 11, 12] [] rfl ⟨⟩ ?_
    refine W.block ?_
    refine W.loopO (fun k => k ≤ n.toNat) (fun k : Nat => [(12, .one (.a (.lit (.int .i64 k))))]) (fun k => [(10, .arr .u8 (stream s k))]) (fun k => n.toNat - k) 0 (fun k => rfl) (Nat.zero_le _) rfl ?_
    intro k hk
    have hle := stream_len s k
    refine W.seq ?_
    refine W.reg X [] [] [0, 5, 11, 12, 13] [] rfl ⟨⟩ ?_
    refine W.seq ?_
    refine W.cond rfl (fun hb1 => ?_) (fun hb1 => ?_)
    · try simp only [nb, inr_t, inr_f, isEmpty_t] at hb1
      have hs := stream_step s k (by omega)
      refine W.skip ?_
      refine W.seq ?_
      refine W.block ?_
      refine W.seq ?_
      refine W.reg X [] [] [0, 5, 6, 11, 12] [] rfl ⟨⟩ ?_
      refine W.reg X [(23, 10)] [(19, ⟨false, [.a (.lit (.int .i64 _))]⟩)] [0, 5, 11, 12] [] rfl (by (repeat' (first | with_reducible exact AllP.nil | with_reducible refine AllP.mk ?_ ?_ | with_reducible apply And.intro)) <;> skip; (iterate 1 (all_goals try (first | exact (c_impl_ChildSeed _ _)))); all_goals (first | (intros; omega) | exact rfl | exact ⟨rfl, El_all _ (by decide)⟩ | exact (u8w _).1 | exact (u8w _).2 | (simp only [byt, maxLen, lens]; omega))) ?_
      refine W.reg X [] [] [0, 5, 11, 12] [] rfl ⟨⟩ ?_
      refine ⟨k + 1, by omega, by omega, ?_⟩
      rw [wadd _ k rfl (by omega), hs]
      try rfl
    · try simp only [nb, inr_t, inr_f, isEmpty_t] at hb1
      refine W.exit ?_
      refine W.seq ?_
      refine W.reg X [] [] [4] [] rfl ⟨⟩ ?_
      refine W.ret ?_
      exact Fin.ret rfl ⟨by rw [show k = n.toNat by omega], ⟨⟩⟩
theorem c_spec_ChildSeed (s k : Int) : Sound ty Tryz.prog 212 [.a (.lit (.int .i64 s)), .a (.lit (.int .i64 k))] [.a (.lit (.int .i64 (cs s k)))] := by
  refine Sound.of X Tryz.call212 Tryz.func212 rfl rfl (by decide) Tryz.ntmps212 (by simp) ?_
  intro zb
  refine W.seq ?_
  refine W.reg X [] [] [0, 1] [] rfl ⟨⟩ ?_
  refine W.seq ?_
  refine W.reg X [] [(9, ⟨false, [.a (.lit (.int .i64 _))]⟩)] [5] [] rfl (by (repeat' (first | with_reducible exact AllP.nil | with_reducible refine AllP.mk ?_ ?_ | with_reducible apply And.intro)) <;> skip; (iterate 1 (all_goals try (first | exact (c_spec_KeyedHash _ _ (by first | assumption | omega | (simp; done) | (simp; omega)))))); all_goals (first | exact ⟨rfl, El_all _ (by decide)⟩)) ?_
  refine W.seq ?_
  refine W.reg X [] [] [4] [] rfl (by (repeat' (first | exact True.intro | apply And.intro)) <;> first | (intros; omega)) ?_
  refine W.ret ?_
  exact Fin.ret rfl ⟨by rw [cs_eq (kh_range _ _).1 (kh_range _ _).2]; rfl, ⟨⟩⟩
theorem c_spec_StreamBytes (s n : Int) (h0 : 0 ≤ n) (h1 : n ≤ 400) : Sound ty Tryz.prog 215 [.a (.lit (.int .i64 s)), .a (.lit (.int .i64 n))] [.a (.sl .u8 (stream s n.toNat))] := by
  refine Sound.of X Tryz.call215 Tryz.func215 rfl rfl (by decide) Tryz.ntmps215 (by simp) ?_
  intro zb
  refine W.seq ?_
  refine W.reg X [] [] [0, 1] [] rfl ⟨⟩ ?_
  refine W.seq ?_
  refine W.reg X [] [] [0, 1, 5] [] rfl (by (repeat' (first | exact True.intro | apply And.intro)) <;> first | exact rfl) ?_
  refine W.seq ?_
  refine W.seq ?_
  refine W.reg X [] [] [0, 1, 5, 6] [] rfl ⟨⟩ ?_
  refine W.block ?_
  refine W.loopO (fun k => k ≤ n.toNat) (fun k : Nat => [(6, .one (.a (.lit (.int .i64 k))))]) (fun k => [(7, .arr .u8 (stream s k))]) (fun k => n.toNat - k) 0 (fun k => rfl) (Nat.zero_le _) rfl ?_
  intro k hk
  have hle := stream_len s k
  refine W.seq ?_
  refine W.seq ?_
  refine W.reg X [] [] [0, 1, 5, 6, 14] [] rfl ⟨⟩ ?_
  refine W.cond rfl (fun hb0 => ?_) (fun hb0 => ?_)
  · try simp only [nb, inr_t, inr_f, isEmpty_t] at hb0
    have hs := stream_step s k (by omega)
    refine W.skip ?_
    refine W.seq ?_
    refine W.block ?_
    refine W.reg X [(25, 7)] [(21, ⟨false, [.a (.lit (.int .i64 _))]⟩)] [0, 1, 5, 6] [] rfl (by (repeat' (first | with_reducible exact AllP.nil | with_reducible refine AllP.mk ?_ ?_ | with_reducible apply And.intro)) <;> skip; (iterate 1 (all_goals try (first | exact (c_spec_ChildSeed _ _)))); all_goals (first | (intros; omega) | exact rfl | exact ⟨rfl, El_all _ (by decide)⟩ | exact (u8w _).1 | exact (u8w _).2 | (simp only [byt, maxLen, lens]; omega))) ?_
    refine W.reg X [] [] [0, 1, 5, 6] [] rfl ⟨⟩ ?_
    refine ⟨k + 1, by omega, by omega, ?_⟩
    rw [wadd _ k rfl (by omega), hs]
    try rfl
  · try simp only [nb, inr_t, inr_f, isEmpty_t] at hb0
    refine W.exit ?_
    refine W.seq ?_
    refine W.reg X [] [] [4] [] rfl ⟨⟩ ?_
    refine W.ret ?_
    exact Fin.ret rfl ⟨by rw [show k = n.toNat by omega], ⟨⟩⟩
end Go.Proofs.YtlocnjfgeifmnaaGreat.G
namespace Go.Proofs.YtlocnjfgeifmnaaGreat.G
set_option linter.all false
open Go.RowKit L D
set_option maxRecDepth 100000
theorem c_slices_Clone_byte_byte (l : List UInt8) (hl : l.length ≤ 1048576) : Sound ty Tryz.prog 234 [.a (.sl .u8 l)] [.a (.sl .u8 l)] := by
  refine Sound.of X Tryz.call234 Tryz.func234 rfl rfl (by decide) Tryz.ntmps234 (by simp) ?_
  intro zb
  refine W.seq ?_
  refine W.reg X [] [] [0] [] rfl ⟨⟩ ?_
  refine W.seq ?_
  refine W.seq ?_
  refine W.isNil X [] [] [0, 4] rfl (by (repeat' (first | exact True.intro | apply And.intro))) (fun hn1 => ?_) ?_
  · skip
    refine W.cond rfl (fun _ => ?_) (fun hb => absurd hb (by decide))
    refine W.seq ?_
    refine W.reg X [] [] [2] [] rfl ⟨⟩ ?_
    refine W.ret ?_
    exact Fin.ret rfl ⟨hn1, ⟨⟩⟩
  · skip
    refine W.cond rfl (fun hb => absurd hb (by decide)) (fun _ => ?_)
    refine W.skip ?_
    refine W.seq ?_
    refine W.reg X [(7, 5)] [] [2] [] rfl (by (repeat' (first | exact True.intro | apply And.intro)) <;> first | exact rfl | (simp only [byt, maxLen, lens]; omega)) ?_
    refine W.ret ?_
    exact Fin.ret rfl ⟨rfl, ⟨⟩⟩
theorem c_impl_Encrypt (s : Int) (l : List UInt8) (hl : l.length ≤ 1048576) : Sound ty Tryz.prog 275 [.a (.lit (.int .i64 s)), .a (.sl .u8 l)] [.a (.sl .u8 (encr s l))] := by
  refine Sound.of X Tryz.call275 Tryz.func275 rfl rfl (by decide) Tryz.ntmps275 (by simp) ?_
  intro zb
  refine W.seq ?_
  refine W.reg X [] [] [0, 1] [] rfl ⟨⟩ ?_
  refine W.seq ?_
  refine W.reg X [] [(8, ⟨true, [.a (.sl .u8 _)]⟩)] [0, 5] [] rfl (by (repeat' (first | with_reducible exact AllP.nil | with_reducible refine AllP.mk ?_ ?_ | with_reducible apply And.intro)) <;> skip; (iterate 1 (all_goals try (first | exact (c_slices_Clone_byte_byte _ (by first | assumption | omega | (simp; done) | (simp; omega))))))) ?_
  refine W.seq ?_
  refine W.seq ?_
  refine W.reg X [] [] [0, 5, 10, 11] [] rfl ⟨⟩ ?_
  refine W.block ?_
  refine W.loopO (fun k => k ≤ l.length) (fun k : Nat => [(11, .one (.a (.lit (.int .i64 k))))]) (fun k => [(8, .arr .u8 ((encr s l).take k ++ l.drop k))]) (fun k => l.length - k) 0 (fun k => rfl) (Nat.zero_le _) rfl ?_
  intro k hk
  have hle := part_len (encr s l) l k (encr_len s l) hk
  refine W.seq ?_
  refine W.reg X [] [] [0, 5, 10, 11, 12] [] rfl ⟨⟩ ?_
  refine W.seq ?_
  refine W.cond rfl (fun hb0 => ?_) (fun hb0 => ?_)
  · try simp only [nb, inr_t, inr_f, isEmpty_t] at hb0
    have hs := encr_impl s l k hb0
    refine W.skip ?_
    refine W.seq ?_
    refine W.block ?_
    refine W.seq ?_
    refine W.reg X [] [] [0, 5, 6, 10, 11] [] rfl ⟨⟩ ?_
    refine W.draw X [] [(21, ⟨false, [.a (.lit (.int .i64 _))]⟩)] [0, 5, 10, 11] [] 12 MO (by kernel_rfl) rfl (by (repeat' (first | with_reducible exact AllP.nil | with_reducible refine AllP.mk ?_ ?_ | with_reducible apply And.intro)) <;> skip; (iterate 1 (all_goals try (first | exact (c_impl_KeyedHash _ _ (by first | assumption | omega | (simp; done) | (simp; omega)))))); all_goals (first | (intros; omega) | exact ⟨rfl, El_all _ (by decide)⟩ | exact (u8w _).1 | exact (u8w _).2)) ?_
    refine W.reg X [] [] [0, 5, 10, 11] [] rfl ⟨⟩ ?_
    refine ⟨k + 1, by omega, by omega, ?_⟩
    rw [wadd _ k rfl (by omega), hs]
    try rfl
  · try simp only [nb, inr_t, inr_f, isEmpty_t] at hb0
    refine W.exit ?_
    refine W.seq ?_
    refine W.reg X [] [] [4] [] rfl ⟨⟩ ?_
    refine W.ret ?_
    exact Fin.ret rfl ⟨by rw [inplace_done _ _ _ (encr_len s l) hb0], ⟨⟩⟩
theorem c_impl_IsValidKey (k : Int) : Sound ty Tryz.prog 137 [.a (.lit (.int .i64 k))] [.a (.lit (.bool (okKey k)))] := by
  refine Sound.of X Tryz.call137 Tryz.func137 rfl rfl (by decide) Tryz.ntmps137 (by simp) ?_
  intro zb
  refine W.seq ?_
  refine W.reg X [] [] [0] [] rfl ⟨⟩ ?_
  refine W.seq ?_
  refine W.reg X [] [(4, ⟨false, [.a (.lit (.bool _))]⟩)] [2] [] rfl (by (repeat' (first | with_reducible exact AllP.nil | with_reducible refine AllP.mk ?_ ?_ | with_reducible apply And.intro)) <;> skip; (iterate 1 (all_goals try (first | exact (c_impl_InRange _ _ _))))) ?_
  refine W.ret ?_
  exact Fin.ret rfl ⟨rfl, ⟨⟩⟩
theorem c_impl_IsValidPlain (p : Plain) : Sound ty Tryz.prog 274 [.agg (dec_Plain p)] [.a (.lit (.bool (okPlain p)))] := by
  refine Sound.of X Tryz.call274 Tryz.func274 rfl rfl (by decide) Tryz.ntmps274 (by simp) ?_
  intro zb
  refine W.seq ?_
  refine W.reg X [] [] [1] [] rfl ⟨⟩ ?_
  refine W.seq ?_
  refine W.reg X [] [(5, ⟨false, [.a (.lit (.bool _))]⟩)] [2] [] rfl (by (repeat' (first | with_reducible exact AllP.nil | with_reducible refine AllP.mk ?_ ?_ | with_reducible apply And.intro)) <;> skip; (iterate 1 (all_goals try (first | exact (c_impl_InRange _ _ _))))) ?_
  refine W.ret ?_
  exact Fin.ret rfl ⟨by unfold okPlain; cases inr p.kind 0 3 <;> rfl, ⟨⟩⟩
theorem c_impl_CellCheck (key c : Int) (l : List UInt8) (hl : l.length ≤ 65536) : Sound ty Tryz.prog 285 [.a (.lit (.int .i64 key)), .a (.lit (.int .i64 c)), .a (.sl .u8 l)] [.a (.lit (.int .i64 (ccheck key c l)))] := by
  refine Sound.of X Tryz.call285 Tryz.func285 rfl rfl (by decide) Tryz.ntmps285 (by simp) ?_
  intro zb
  refine W.seq ?_
  refine W.reg X [] [] [0, 1, 2] [] rfl ⟨⟩ ?_
  refine W.seq ?_
  refine W.reg X [] [] [0, 2, 7] [] rfl (by (repeat' (first | exact True.intro | apply And.intro)) <;> first | exact rfl) ?_
  refine W.seq ?_
  refine W.seq ?_
  refine W.reg X [] [] [0, 7, 12, 13, 14] [] rfl ⟨⟩ ?_
  refine W.block ?_
  refine W.loopO (fun k => k ≤ l.length) (fun k : Nat => [(14, .one (.a (.lit (.int .i64 k))))]) (fun k => [(11, .arr .int ([71, c] ++ (l.take k).map (fun x => (x.toNat : Int))))]) (fun k => l.length - k) 0 (fun k => rfl) (Nat.zero_le _) rfl ?_
  intro k hk
  refine W.seq ?_
  refine W.reg X [] [] [0, 7, 12, 13, 14, 15] [] rfl ⟨⟩ ?_
  refine W.seq ?_
  refine W.cond rfl (fun hb0 => ?_) (fun hb0 => ?_)
  · try simp only [nb, inr_t, inr_f, isEmpty_t] at hb0
    have hs := cc_step l c k hb0
    refine W.skip ?_
    refine W.seq ?_
    refine W.block ?_
    refine W.seq ?_
    refine W.reg X [] [] [0, 7, 9, 12, 13, 14] [] rfl (by (repeat' (first | exact True.intro | apply And.intro)) <;> first | (intros; omega)) ?_
    refine W.reg X [(22, 11)] [] [0, 7, 12, 13, 14] [] rfl (by (repeat' (first | exact True.intro | apply And.intro)) <;> first | exact rfl | (simp only [byt, maxLen, lens]; omega)) ?_
    refine W.reg X [] [] [0, 7, 12, 13, 14] [] rfl ⟨⟩ ?_
    refine ⟨k + 1, by omega, by omega, ?_⟩
    rw [wadd _ k rfl (by omega), hs]
    try rfl
  · try simp only [nb, inr_t, inr_f, isEmpty_t] at hb0
    refine W.exit ?_
    refine W.seq ?_
    refine W.reg X [] [(26, ⟨false, [.a (.lit (.int .i64 _))]⟩)] [6] [] rfl (by (repeat' (first | with_reducible exact AllP.nil | with_reducible refine AllP.mk ?_ ?_ | with_reducible apply And.intro)) <;> skip; (iterate 1 (all_goals try (first | exact (c_impl_KeyedHash _ _ (by first | assumption | omega | (simp; done) | (simp; omega))))))) ?_
    refine W.ret ?_
    exact Fin.ret rfl ⟨by rw [List.take_of_length_le hb0]; rfl, ⟨⟩⟩
theorem c_impl_MailboxRow (key r d n : Int) : Sound ty Tryz.prog 141 [.a (.lit (.int .i64 key)), .a (.lit (.int .i64 r)), .a (.lit (.int .i64 d)), .a (.lit (.int .i64 n))] [.a (.lit (.int .i64 (mrow key r d n)))] := by
  refine Sound.of X Tryz.call141 Tryz.func141 rfl rfl (by decide) Tryz.ntmps141 (by simp) ?_
  intro zb
  refine W.seq ?_
  refine W.reg X [] [] [0, 1, 2, 3] [] rfl ⟨⟩ ?_
  refine W.seq ?_
  refine W.seq ?_
  refine W.reg X [] [(10, ⟨false, [.a (.lit (.bool _))]⟩), (14, ⟨false, [.a (.lit (.bool _))]⟩)] [0, 1, 2, 3, 16] [] rfl (by (repeat' (first | with_reducible exact AllP.nil | with_reducible refine AllP.mk ?_ ?_ | with_reducible apply And.intro)) <;> skip; (iterate 1 (all_goals try (first | exact (c_impl_InRange _ _ _) | exact fun _ => (c_impl_InRange _ _ _))))) ?_
  refine W.cond rfl (fun hb0 => ?_) (fun hb0 => ?_)
  · try simp only [nb, inr_t, inr_f, isEmpty_t] at hb0
    refine W.seq ?_
    refine W.reg X [] [] [8] [] rfl ⟨⟩ ?_
    refine W.ret ?_
    exact Fin.ret rfl ⟨by rw [mrow, if_neg (by omega)], ⟨⟩⟩
  · try simp only [nb, inr_t, inr_f, isEmpty_t] at hb0
    have hcs := cs_range (kh key [79, r, d]) 0
    refine W.skip ?_
    refine W.seq ?_
    refine W.reg X [] [(21, ⟨false, [.a (.lit (.int .i64 _))]⟩), (22, ⟨false, [.a (.lit (.int .i64 _))]⟩)] [8] [] rfl (by (repeat' (first | with_reducible exact AllP.nil | with_reducible refine AllP.mk ?_ ?_ | with_reducible apply And.intro)) <;> skip; (iterate 2 (all_goals try (first | exact (c_impl_KeyedHash _ _ (by first | assumption | omega | (simp; done) | (simp; omega))) | exact (c_impl_ChildSeed _ _)))); all_goals (first | (intros; omega) | exact ⟨rfl, El_all _ (by decide)⟩)) ?_
    refine W.ret ?_
    exact Fin.ret rfl ⟨by rw [mrow, if_pos (by omega), tmod_pos hcs.1], ⟨⟩⟩
theorem c_spec_Encrypt (s : Int) (l : List UInt8) (hl : l.length ≤ 1048576) : Sound ty Tryz.prog 265 [.a (.lit (.int .i64 s)), .a (.sl .u8 l)] [.a (.sl .u8 (encr s l))] := by
  refine Sound.of X Tryz.call265 Tryz.func265 rfl rfl (by decide) Tryz.ntmps265 (by simp) ?_
  intro zb
  refine W.seq ?_
  refine W.reg X [] [] [0, 1] [] rfl ⟨⟩ ?_
  refine W.seq ?_
  refine W.reg X [] [] [0, 1, 5] [] rfl (by (repeat' (first | exact True.intro | apply And.intro)) <;> first | exact rfl) ?_
  refine W.seq ?_
  refine W.seq ?_
  refine W.reg X [] [] [0, 1, 5, 6] [] rfl ⟨⟩ ?_
  refine W.block ?_
  refine W.loopO (fun k => k ≤ l.length) (fun k : Nat => [(6, .one (.a (.lit (.int .i64 k))))]) (fun k => [(7, .arr .u8 ((encr s l).take k))]) (fun k => l.length - k) 0 (fun k => rfl) (Nat.zero_le _) rfl ?_
  intro k hk
  have hle := take_le_len (encr s l) k
  refine W.seq ?_
  refine W.seq ?_
  refine W.reg X [] [] [0, 1, 5, 6, 11] [] rfl ⟨⟩ ?_
  refine W.cond rfl (fun hb0 => ?_) (fun hb0 => ?_)
  · try simp only [nb, inr_t, inr_f, isEmpty_t] at hb0
    have hs := encr_spec s l k hb0
    refine W.skip ?_
    refine W.seq ?_
    refine W.block ?_
    refine W.draw X [(29, 7)] [(23, ⟨false, [.a (.lit (.int .i64 _))]⟩)] [0, 1, 5, 6] [] 15 MO (by kernel_rfl) rfl (by (repeat' (first | with_reducible exact AllP.nil | with_reducible refine AllP.mk ?_ ?_ | with_reducible apply And.intro)) <;> skip; (iterate 1 (all_goals try (first | exact (c_spec_KeyedHash _ _ (by first | assumption | omega | (simp; done) | (simp; omega)))))); all_goals (first | (intros; omega) | exact rfl | exact ⟨rfl, El_all _ (by decide)⟩ | exact (u8w _).1 | exact (u8w _).2 | (simp only [byt, maxLen, lens]; omega))) ?_
    refine W.reg X [] [] [0, 1, 5, 6] [] rfl ⟨⟩ ?_
    refine ⟨k + 1, by omega, by omega, ?_⟩
    rw [wadd _ k rfl (by omega), hs]
    try rfl
  · try simp only [nb, inr_t, inr_f, isEmpty_t] at hb0
    refine W.exit ?_
    refine W.seq ?_
    refine W.reg X [] [] [4] [] rfl ⟨⟩ ?_
    refine W.ret ?_
    exact Fin.ret rfl ⟨by rw [List.take_of_length_le (by rw [encr_len]; exact hb0)], ⟨⟩⟩
theorem c_spec_IsValidKey (k : Int) : Sound ty Tryz.prog 123 [.a (.lit (.int .i64 k))] [.a (.lit (.bool (okKey k)))] := by
  refine Sound.of X Tryz.call123 Tryz.func123 rfl rfl (by decide) Tryz.ntmps123 (by simp) ?_
  intro zb
  refine W.seq ?_
  refine W.reg X [] [] [0] [] rfl ⟨⟩ ?_
  refine W.seq ?_
  refine W.reg X [] [(4, ⟨false, [.a (.lit (.bool _))]⟩)] [2] [] rfl (by (repeat' (first | with_reducible exact AllP.nil | with_reducible refine AllP.mk ?_ ?_ | with_reducible apply And.intro)) <;> skip; (iterate 1 (all_goals try (first | exact (c_spec_l1In _ _ _))))) ?_
  refine W.ret ?_
  exact Fin.ret rfl ⟨rfl, ⟨⟩⟩
theorem c_spec_IsValidPlain (p : Plain) : Sound ty Tryz.prog 264 [.agg (dec_Plain p)] [.a (.lit (.bool (okPlain p)))] := by
  refine Sound.of X Tryz.call264 Tryz.func264 rfl rfl (by decide) Tryz.ntmps264 (by simp) ?_
  intro zb
  refine W.seq ?_
  refine W.reg X [] [] [1] [] rfl ⟨⟩ ?_
  refine W.seq ?_
  refine W.reg X [] [(5, ⟨false, [.a (.lit (.bool _))]⟩)] [2] [] rfl (by (repeat' (first | with_reducible exact AllP.nil | with_reducible refine AllP.mk ?_ ?_ | with_reducible apply And.intro)) <;> skip; (iterate 1 (all_goals try (first | exact (c_spec_l1In _ _ _))))) ?_
  refine W.ret ?_
  exact Fin.ret rfl ⟨by unfold okPlain; cases inr p.kind 0 3 <;> rfl, ⟨⟩⟩
theorem c_spec_CellCheck (key c : Int) (l : List UInt8) (hl : l.length ≤ 65536) : Sound ty Tryz.prog 267 [.a (.lit (.int .i64 key)), .a (.lit (.int .i64 c)), .a (.sl .u8 l)] [.a (.lit (.int .i64 (ccheck key c l)))] := by
  refine Sound.of X Tryz.call267 Tryz.func267 rfl rfl (by decide) Tryz.ntmps267 (by simp) ?_
  intro zb
  refine W.seq ?_
  refine W.reg X [] [] [0, 1, 2] [] rfl ⟨⟩ ?_
  refine W.seq ?_
  refine W.reg X [] [] [0, 2, 7] [] rfl (by (repeat' (first | exact True.intro | apply And.intro)) <;> first | exact rfl) ?_
  refine W.seq ?_
  refine W.seq ?_
  refine W.reg X [] [] [0, 2, 7, 8] [] rfl ⟨⟩ ?_
  refine W.block ?_
  refine W.loopO (fun k => k ≤ l.length) (fun k : Nat => [(8, .one (.a (.lit (.int .i64 k))))]) (fun k => [(10, .arr .int ([71, c] ++ (l.take k).map (fun x => (x.toNat : Int))))]) (fun k => l.length - k) 0 (fun k => rfl) (Nat.zero_le _) rfl ?_
  intro k hk
  refine W.seq ?_
  refine W.seq ?_
  refine W.reg X [] [] [0, 2, 7, 8, 14] [] rfl ⟨⟩ ?_
  refine W.cond rfl (fun hb0 => ?_) (fun hb0 => ?_)
  · try simp only [nb, inr_t, inr_f, isEmpty_t] at hb0
    have hs := cc_step l c k hb0
    refine W.skip ?_
    refine W.seq ?_
    refine W.block ?_
    refine W.reg X [(24, 10)] [] [0, 2, 7, 8] [] rfl (by (repeat' (first | exact True.intro | apply And.intro)) <;> first | (intros; omega) | exact rfl | (simp only [byt, maxLen, lens]; omega)) ?_
    refine W.reg X [] [] [0, 2, 7, 8] [] rfl ⟨⟩ ?_
    refine ⟨k + 1, by omega, by omega, ?_⟩
    rw [wadd _ k rfl (by omega), hs]
    try rfl
  · try simp only [nb, inr_t, inr_f, isEmpty_t] at hb0
    refine W.exit ?_
    refine W.seq ?_
    refine W.reg X [] [(27, ⟨false, [.a (.lit (.int .i64 _))]⟩)] [6] [] rfl (by (repeat' (first | with_reducible exact AllP.nil | with_reducible refine AllP.mk ?_ ?_ | with_reducible apply And.intro)) <;> skip; (iterate 1 (all_goals try (first | exact (c_spec_KeyedHash _ _ (by first | assumption | omega | (simp; done) | (simp; omega))))))) ?_
    refine W.ret ?_
    exact Fin.ret rfl ⟨by rw [List.take_of_length_le hb0]; rfl, ⟨⟩⟩
theorem c_spec_MailboxRow (key r d n : Int) : Sound ty Tryz.prog 125 [.a (.lit (.int .i64 key)), .a (.lit (.int .i64 r)), .a (.lit (.int .i64 d)), .a (.lit (.int .i64 n))] [.a (.lit (.int .i64 (mrow key r d n)))] := by
  refine Sound.of X Tryz.call125 Tryz.func125 rfl rfl (by decide) Tryz.ntmps125 (by simp) ?_
  intro zb
  refine W.seq ?_
  refine W.reg X [] [] [0, 1, 2, 3] [] rfl ⟨⟩ ?_
  refine W.seq ?_
  refine W.seq ?_
  refine W.reg X [] [(10, ⟨false, [.a (.lit (.bool _))]⟩), (14, ⟨false, [.a (.lit (.bool _))]⟩)] [0, 1, 2, 3, 16] [] rfl (by (repeat' (first | with_reducible exact AllP.nil | with_reducible refine AllP.mk ?_ ?_ | with_reducible apply And.intro)) <;> skip; (iterate 1 (all_goals try (first | exact (c_spec_l1In _ _ _) | exact fun _ => (c_spec_l1In _ _ _))))) ?_
  refine W.cond rfl (fun hb0 => ?_) (fun hb0 => ?_)
  · try simp only [nb, inr_t, inr_f, isEmpty_t] at hb0
    refine W.seq ?_
    refine W.reg X [] [] [8] [] rfl ⟨⟩ ?_
    refine W.ret ?_
    exact Fin.ret rfl ⟨by rw [mrow, if_neg (by omega)], ⟨⟩⟩
  · try simp only [nb, inr_t, inr_f, isEmpty_t] at hb0
    have hcs := cs_range (kh key [79, r, d]) 0
    refine W.skip ?_
    refine W.seq ?_
    refine W.reg X [] [(21, ⟨false, [.a (.lit (.int .i64 _))]⟩), (22, ⟨false, [.a (.lit (.int .i64 _))]⟩)] [8] [] rfl (by (repeat' (first | with_reducible exact AllP.nil | with_reducible refine AllP.mk ?_ ?_ | with_reducible apply And.intro)) <;> skip; (iterate 2 (all_goals try (first | exact (c_spec_KeyedHash _ _ (by first | assumption | omega | (simp; done) | (simp; omega))) | exact (c_spec_ChildSeed _ _)))); all_goals (first | (intros; omega) | exact ⟨rfl, El_all _ (by decide)⟩)) ?_
    refine W.ret ?_
    exact Fin.ret rfl ⟨by rw [mrow, if_pos (by omega), tmod_pos hcs.1], ⟨⟩⟩
theorem c_impl_cellKey (k c : Int) : Sound ty Tryz.prog 276 [.a (.lit (.int .i64 k)), .a (.lit (.int .i64 c))] [.a (.lit (.int .i64 (ckey k c)))] := by
  refine Sound.of X Tryz.call276 Tryz.func276 rfl rfl (by decide) Tryz.ntmps276 (by simp) ?_
  intro zb
  refine W.seq ?_
  refine W.reg X [] [] [0, 1] [] rfl ⟨⟩ ?_
  refine W.seq ?_
  refine W.reg X [] [(8, ⟨false, [.a (.lit (.int .i64 _))]⟩), (9, ⟨false, [.a (.lit (.int .i64 _))]⟩)] [4] [] rfl (by (repeat' (first | with_reducible exact AllP.nil | with_reducible refine AllP.mk ?_ ?_ | with_reducible apply And.intro)) <;> skip; (iterate 2 (all_goals try (first | exact (c_impl_KeyedHash _ _ (by first | assumption | omega | (simp; done) | (simp; omega))) | exact (c_impl_orOne _)))); all_goals (first | exact ⟨rfl, El_all _ (by decide)⟩)) ?_
  refine W.ret ?_
  exact Fin.ret rfl ⟨rfl, ⟨⟩⟩
theorem c_impl_DirectionKey (k c : Int) : Sound ty Tryz.prog 226 [.a (.lit (.int .i64 k)), .a (.lit (.int .i64 c))] [.a (.lit (.int .i64 (dkey k c)))] := by
  refine Sound.of X Tryz.call226 Tryz.func226 rfl rfl (by decide) Tryz.ntmps226 (by simp) ?_
  intro zb
  refine W.seq ?_
  refine W.reg X [] [] [0, 1] [] rfl ⟨⟩ ?_
  refine W.seq ?_
  refine W.reg X [] [(8, ⟨false, [.a (.lit (.int .i64 _))]⟩), (9, ⟨false, [.a (.lit (.int .i64 _))]⟩)] [4] [] rfl (by (repeat' (first | with_reducible exact AllP.nil | with_reducible refine AllP.mk ?_ ?_ | with_reducible apply And.intro)) <;> skip; (iterate 2 (all_goals try (first | exact (c_impl_KeyedHash _ _ (by first | assumption | omega | (simp; done) | (simp; omega))) | exact (c_impl_orOne _)))); all_goals (first | exact ⟨rfl, El_all _ (by decide)⟩)) ?_
  refine W.ret ?_
  exact Fin.ret rfl ⟨rfl, ⟨⟩⟩
theorem c_spec_l13Cipher (k c : Int) : Sound ty Tryz.prog 266 [.a (.lit (.int .i64 k)), .a (.lit (.int .i64 c))] [.a (.lit (.int .i64 (ckey k c)))] := by
  refine Sound.of X Tryz.call266 Tryz.func266 rfl rfl (by decide) Tryz.ntmps266 (by simp) ?_
  intro zb
  refine W.seq ?_
  refine W.reg X [] [] [0, 1] [] rfl ⟨⟩ ?_
  refine W.seq ?_
  refine W.reg X [] [(8, ⟨false, [.a (.lit (.int .i64 _))]⟩), (9, ⟨false, [.a (.lit (.int .i64 _))]⟩)] [4] [] rfl (by (repeat' (first | with_reducible exact AllP.nil | with_reducible refine AllP.mk ?_ ?_ | with_reducible apply And.intro)) <;> skip; (iterate 2 (all_goals try (first | exact (c_spec_KeyedHash _ _ (by first | assumption | omega | (simp; done) | (simp; omega))) | exact (c_spec_Max _ _)))); all_goals (first | exact ⟨rfl, El_all _ (by decide)⟩)) ?_
  refine W.ret ?_
  exact Fin.ret rfl ⟨by rw [or1_max (kh_range _ _).1]; rfl, ⟨⟩⟩
theorem c_spec_DirectionKey (k c : Int) : Sound ty Tryz.prog 214 [.a (.lit (.int .i64 k)), .a (.lit (.int .i64 c))] [.a (.lit (.int .i64 (dkey k c)))] := by
  refine Sound.of X Tryz.call214 Tryz.func214 rfl rfl (by decide) Tryz.ntmps214 (by simp) ?_
  intro zb
  refine W.seq ?_
  refine W.reg X [] [] [0, 1] [] rfl ⟨⟩ ?_
  refine W.seq ?_
  refine W.reg X [] [(8, ⟨false, [.a (.lit (.int .i64 _))]⟩), (9, ⟨false, [.a (.lit (.int .i64 _))]⟩)] [4] [] rfl (by (repeat' (first | with_reducible exact AllP.nil | with_reducible refine AllP.mk ?_ ?_ | with_reducible apply And.intro)) <;> skip; (iterate 2 (all_goals try (first | exact (c_spec_KeyedHash _ _ (by first | assumption | omega | (simp; done) | (simp; omega))) | exact (c_spec_Max _ _)))); all_goals (first | exact ⟨rfl, El_all _ (by decide)⟩)) ?_
  refine W.ret ?_
  exact Fin.ret rfl ⟨by rw [or1_max (kh_range _ _).1]; rfl, ⟨⟩⟩
theorem c_impl_checkBytes (k c : Int) (l : List UInt8) (hl : l.length ≤ 65536) : Sound ty Tryz.prog 277 [.a (.lit (.int .i64 k)), .a (.lit (.int .i64 c)), .a (.sl .u8 l)] [.a (.sl .u8 (four (ccheck k c l)))] := by
  refine Sound.of X Tryz.call277 Tryz.func277 rfl rfl (by decide) Tryz.ntmps277 (by simp) ?_
  intro zb
  refine W.seq ?_
  refine W.reg X [] [] [0, 1, 2] [] rfl ⟨⟩ ?_
  refine W.seq ?_
  refine W.reg X [] [(11, ⟨false, [.a (.lit (.int .i64 _))]⟩)] [7] [] rfl (by (repeat' (first | with_reducible exact AllP.nil | with_reducible refine AllP.mk ?_ ?_ | with_reducible apply And.intro)) <;> skip; (iterate 1 (all_goals try (first | exact (c_impl_CellCheck _ _ _ (by first | assumption | omega | (simp; done) | (simp; omega))))))) ?_
  refine W.seq ?_
  refine W.reg X [] [] [6] [] rfl (by (repeat' (first | exact True.intro | apply And.intro)) <;> first | (intros; omega) | exact rfl | exact (u8w _).1 | exact (u8w _).2) ?_
  refine W.ret ?_
  exact Fin.ret rfl ⟨four_eq _, ⟨⟩⟩
end Go.Proofs.YtlocnjfgeifmnaaGreat.G
namespace Go.Proofs.YtlocnjfgeifmnaaGreat.G
set_option linter.all false
open Go.RowKit L D
set_option maxRecDepth 100000
theorem c_slices_IndexFunc_byte_byte (l : List (List UInt8)) (f : FuncId) (p : (List UInt8) → Bool) (hf : ∀ b, Sound ty Tryz.prog f [.a (.sl .u8 b)] [.a (.lit (.bool (p b)))]) : Sound ty Tryz.prog 273 [.a (.sl (.sl .u8) l), .a (.lit (.func (.func f) #[] #[]))] [.a (.lit (.int .i64 (fidx p l)))] := by
  refine Sound.of X Tryz.call273 Tryz.func273 rfl rfl (by decide) Tryz.ntmps273 (by simp) ?_
  intro zb
  refine W.bound 0 rfl (fun hll => ?_)
  refine W.seq ?_
  refine W.reg X [] [] [0, 1] [] rfl ⟨⟩ ?_
  refine W.seq ?_
  refine W.seq ?_
  refine W.reg X [] [] [0, 1, 7, 8] [] rfl ⟨⟩ ?_
  refine W.block ?_
  refine W.loopO (fun k => k ≤ l.length ∧ (l.take k).any p = false) (fun k : Nat => [(8, .one (.a (.lit (.int .i64 k))))]) (fun k => []) (fun k => l.length - k) 0 (fun k => rfl) ⟨Nat.zero_le _, rfl⟩ rfl ?_
  rintro k ⟨hk, hall⟩
  refine W.seq ?_
  refine W.reg X [] [] [0, 1, 7, 8, 9] [] rfl ⟨⟩ ?_
  refine W.seq ?_
  refine W.cond rfl (fun hb0 => ?_) (fun hb0 => ?_)
  · try simp only [nb, inr_t, inr_f, isEmpty_t] at hb0
    refine W.skip ?_
    refine W.seq ?_
    refine W.block ?_
    refine W.seq ?_
    refine W.reg X [] [] [0, 1, 5, 7, 8] [] rfl ⟨⟩ ?_
    refine W.seq ?_
    refine W.reg X [] [(16, ⟨false, [.a (.lit (.bool (p (l.getD k (dfl (.sl .u8))))))]⟩)] [0, 1, 5, 7, 8, 16] [] rfl (by (repeat' (first | with_reducible exact AllP.nil | with_reducible refine AllP.mk ?_ ?_ | with_reducible apply And.intro)) <;> skip; (iterate 1 (all_goals try (first | exact (hf _)))); all_goals (first | (intros; omega))) ?_
    refine W.cond rfl (fun hb1 => ?_) (fun hb1 => ?_)
    · skip
      refine W.seq ?_
      refine W.reg X [] [] [4] [] rfl ⟨⟩ ?_
      refine W.ret ?_
      exact Fin.ret rfl ⟨by rw [fidx_hit (dfl (.sl .u8)) hb0 hall hb1], ⟨⟩⟩
    · skip
      refine W.skip ?_
      refine W.reg X [] [] [0, 1, 7, 8] [] rfl ⟨⟩ ?_
      refine ⟨k + 1, ⟨by omega, any_no (dfl (.sl .u8)) hb0 hall hb1⟩, by omega, ?_⟩
      rw [wadd _ k rfl (by omega)]
      try rfl
  · try simp only [nb, inr_t, inr_f, isEmpty_t] at hb0
    refine W.exit ?_
    refine W.seq ?_
    refine W.reg X [] [] [4] [] rfl ⟨⟩ ?_
    refine W.ret ?_
    exact Fin.ret rfl ⟨by rw [fidx_miss (by rw [← hall, List.take_of_length_le hb0])], ⟨⟩⟩
theorem c_slices_ContainsFunc_byte_byte (l : List (List UInt8)) (f : FuncId) (p : (List UInt8) → Bool) (hf : ∀ b, Sound ty Tryz.prog f [.a (.sl .u8 b)] [.a (.lit (.bool (p b)))]) : Sound ty Tryz.prog 223 [.a (.sl (.sl .u8) l), .a (.lit (.func (.func f) #[] #[]))] [.a (.lit (.bool (l.any p)))] := by
  refine Sound.of X Tryz.call223 Tryz.func223 rfl rfl (by decide) Tryz.ntmps223 (by simp) ?_
  intro zb
  refine W.seq ?_
  refine W.reg X [] [] [0, 1] [] rfl ⟨⟩ ?_
  refine W.seq ?_
  refine W.reg X [] [(7, ⟨false, [.a (.lit (.int .i64 (fidx p l)))]⟩)] [4] [] rfl (by (repeat' (first | with_reducible exact AllP.nil | with_reducible refine AllP.mk ?_ ?_ | with_reducible apply And.intro)) <;> skip; (iterate 1 (all_goals try (first | exact (c_slices_IndexFunc_byte_byte l f p hf))))) ?_
  refine W.ret ?_
  exact Fin.ret rfl ⟨congrArg Value.bool (fidx_ge p l), ⟨⟩⟩
theorem c_impl_IsValidDatabase_1 (b : List UInt8) : Sound ty Tryz.prog 272 [.a (.sl .u8 b)] [.a (.lit (.bool (!decide ((b.length : Int) = 24))))] := by
  refine Sound.of X Tryz.call272 Tryz.func272 rfl rfl (by decide) Tryz.ntmps272 (by simp) ?_
  intro zb
  refine W.seq ?_
  refine W.reg X [] [] [0] [] rfl ⟨⟩ ?_
  refine W.seq ?_
  refine W.reg X [] [] [2] [] rfl ⟨⟩ ?_
  refine W.ret ?_
  exact Fin.ret rfl ⟨(congrArg Value.bool (by simp only [ite_tt, ite_ff, gt_iff_lt, ge_iff_le, not_dlt, not_dle, bne_not, deq, decide_not, ne_eq, Bool.not_and, Bool.not_or, Bool.not_not, Bool.and_true, Bool.true_and, Bool.or_false, Bool.false_or, Int.toNat_natCast] <;> first | rfl | ac_rfl)), ⟨⟩⟩
theorem c_impl_IsValidDatabase (d : DB) : Sound ty Tryz.prog 220 [.agg (dec_DB d)] [.a (.lit (.bool (okDB d)))] := by
  refine Sound.of X Tryz.call220 Tryz.func220 rfl rfl (by decide) Tryz.ntmps220 (by simp) ?_
  intro zb
  refine W.seq ?_
  refine W.reg X [] [] [1] [] rfl ⟨⟩ ?_
  refine W.seq ?_
  refine W.reg X [] [(10, ⟨false, [.a (.lit (.bool (d.rows.any fun b => !decide ((b.length : Int) = 24))))]⟩)] [2] [] rfl (by (repeat' (first | with_reducible exact AllP.nil | with_reducible refine AllP.mk ?_ ?_ | with_reducible apply And.intro)) <;> skip; (iterate 1 (all_goals try (first | exact fun _ => (c_slices_ContainsFunc_byte_byte _ _ _ c_impl_IsValidDatabase_1))))) ?_
  refine W.ret ?_
  exact Fin.ret rfl ⟨by unfold okDB; rw [any_not_all]; by_cases h : (d.rows.length : Int) ≤ 64 <;> simp [h], ⟨⟩⟩
theorem c_spec_IsValidDatabase (d : DB) : Sound ty Tryz.prog 209 [.agg (dec_DB d)] [.a (.lit (.bool (okDB d)))] := by
  refine Sound.of X Tryz.call209 Tryz.func209 rfl rfl (by decide) Tryz.ntmps209 (by simp) ?_
  intro zb
  refine W.boundA 0 0 rfl rfl (fun hll => ?_)
  refine W.seq ?_
  refine W.reg X [] [] [1] [] rfl ⟨⟩ ?_
  refine W.seq ?_
  refine W.seq ?_
  refine W.reg X [] [] [1, 3] [] rfl ⟨⟩ ?_
  refine W.block ?_
  refine W.loopO (fun k => k ≤ d.rows.length ∧ (d.rows.take k).all (fun r => decide ((r.length : Int) = 24)) = true) (fun k : Nat => [(3, .one (.a (.lit (.int .i64 k))))]) (fun k => []) (fun k => d.rows.length - k) 0 (fun k => rfl) ⟨Nat.zero_le _, rfl⟩ rfl ?_
  rintro k ⟨hk, hall⟩
  refine W.seq ?_
  refine W.seq ?_
  refine W.reg X [] [] [1, 3, 8] [] rfl ⟨⟩ ?_
  refine W.cond rfl (fun hb0 => ?_) (fun hb0 => ?_)
  · try simp only [nb, inr_t, inr_f, isEmpty_t] at hb0
    refine W.skip ?_
    refine W.seq ?_
    refine W.block ?_
    refine W.seq ?_
    refine W.reg X [] [] [1, 3, 17] [] rfl (by (repeat' (first | exact True.intro | apply And.intro)) <;> first | (intros; omega)) ?_
    refine W.cond rfl (fun hb1 => ?_) (fun hb1 => ?_)
    · try simp only [nb, inr_t, inr_f, isEmpty_t] at hb1
      refine W.seq ?_
      refine W.reg X [] [] [2] [] rfl ⟨⟩ ?_
      refine W.ret ?_
      exact Fin.ret rfl ⟨by unfold okDB; rw [all_no _ _ (dfl (.sl .u8)) k hb0 (by simpa using hb1)]; simp, ⟨⟩⟩
    · try simp only [nb, inr_t, inr_f, isEmpty_t] at hb1
      refine W.skip ?_
      refine W.reg X [] [] [1, 3] [] rfl ⟨⟩ ?_
      refine ⟨k + 1, ⟨by omega, by rw [all_snoc _ _ _ (dfl (.sl .u8)) hb0, hall]; simpa using hb1⟩, by omega, ?_⟩
      rw [wadd _ k rfl (by omega)]
      try rfl
  · try simp only [nb, inr_t, inr_f, isEmpty_t] at hb0
    refine W.exit ?_
    refine W.seq ?_
    refine W.reg X [] [] [2] [] rfl ⟨⟩ ?_
    refine W.ret ?_
    exact Fin.ret rfl ⟨by rw [List.take_of_length_le hb0] at hall; unfold okDB; rw [hall]; simp, ⟨⟩⟩
theorem c_impl_LastRound (a : Arc) : Sound ty Tryz.prog 136 [.agg (dec_Arc a)] [.a (.lit (.int .i64 (lastR a)))] := by
  refine Sound.of X Tryz.call136 Tryz.func136 rfl rfl (by decide) Tryz.ntmps136 (by simp) ?_
  intro zb
  refine W.boundA 0 1 rfl rfl (fun hll => ?_)
  refine W.seq ?_
  refine W.reg X [] [] [1] [] rfl ⟨⟩ ?_
  refine W.seq ?_
  refine W.seq ?_
  refine W.reg X [] [] [1, 6] [] rfl ⟨⟩ ?_
  refine W.cond rfl (fun hb0 => ?_) (fun hb0 => ?_)
  · try simp only [nb, inr_t, inr_f, isEmpty_t] at hb0
    refine W.seq ?_
    refine W.reg X [] [] [2] [] rfl ⟨⟩ ?_
    refine W.ret ?_
    exact Fin.ret rfl ⟨by rw [lastR, if_pos (by omega)], ⟨⟩⟩
  · try simp only [nb, inr_t, inr_f, isEmpty_t] at hb0
    refine W.skip ?_
    refine W.seq ?_
    refine W.reg X [] [] [2] [] rfl (by (repeat' (first | exact True.intro | apply And.intro)) <;> first | ((try simp only [nb, inr_t, inr_f] at *); (simp (disch := omega) only [i64w]); omega)) ?_
    refine W.ret ?_
    exact Fin.ret rfl ⟨by rw [lastR, if_neg (by omega), i64w (by omega)]; congr 4; omega, ⟨⟩⟩
theorem c_spec_LastRound (a : Arc) : Sound ty Tryz.prog 122 [.agg (dec_Arc a)] [.a (.lit (.int .i64 (lastR a)))] := by
  refine Sound.of X Tryz.call122 Tryz.func122 rfl rfl (by decide) Tryz.ntmps122 (by simp) ?_
  intro zb
  refine W.boundA 0 1 rfl rfl (fun hll => ?_)
  refine W.seq ?_
  refine W.reg X [] [] [1] [] rfl ⟨⟩ ?_
  refine W.seq ?_
  refine W.seq ?_
  refine W.reg X [] [] [1, 6] [] rfl ⟨⟩ ?_
  refine W.cond rfl (fun hb0 => ?_) (fun hb0 => ?_)
  · try simp only [nb, inr_t, inr_f, isEmpty_t] at hb0
    refine W.seq ?_
    refine W.reg X [] [] [2] [] rfl ⟨⟩ ?_
    refine W.ret ?_
    exact Fin.ret rfl ⟨by rw [lastR, if_pos (by omega)], ⟨⟩⟩
  · try simp only [nb, inr_t, inr_f, isEmpty_t] at hb0
    refine W.skip ?_
    refine W.seq ?_
    refine W.reg X [] [] [2] [] rfl (by (repeat' (first | exact True.intro | apply And.intro)) <;> first | ((try simp only [nb, inr_t, inr_f] at *); (simp (disch := omega) only [i64w]); omega)) ?_
    refine W.ret ?_
    exact Fin.ret rfl ⟨by rw [lastR, if_neg (by omega), i64w (by omega)]; congr 4; omega, ⟨⟩⟩
theorem c_impl_IsValidServer (s : Srv) : Sound ty Tryz.prog 138 [.agg (dec_Srv s)] [.a (.lit (.bool (okSrv s)))] := by
  refine Sound.of X Tryz.call138 Tryz.func138 rfl rfl (by decide) Tryz.ntmps138 (by simp) ?_
  intro zb
  refine W.boundA 0 3 rfl rfl (fun hll => ?_)
  refine W.seq ?_
  refine W.reg X [] [] [1] [] rfl ⟨⟩ ?_
  refine W.seq ?_
  refine W.seq ?_
  refine W.reg X [] [(7, ⟨false, [.a (.lit (.bool (inr s.id 0 3)))]⟩), (12, ⟨false, [.a (.lit (.bool (inr s.rows 1 64)))]⟩), (18, ⟨false, [.a (.lit (.bool (inr s.behavior 0 3)))]⟩), (24, ⟨false, [.a (.lit (.bool (inr s.round 0 100000)))]⟩)] [1, 32] [] rfl (by (repeat' (first | with_reducible exact AllP.nil | with_reducible refine AllP.mk ?_ ?_ | with_reducible apply And.intro)) <;> skip; (iterate 4 (all_goals try (first | exact (c_impl_InRange s.id 0 3) | exact fun _ => (c_impl_InRange s.rows 1 64) | exact fun _ => (c_impl_InRange s.behavior 0 3) | exact fun _ => (c_impl_InRange s.round 0 100000))))) ?_
  refine W.cond rfl (fun hb0 => ?_) (fun hb0 => ?_)
  · skip
    refine W.seq ?_
    refine W.reg X [] [] [2] [] rfl ⟨⟩ ?_
    refine W.ret ?_
    exact Fin.ret rfl ⟨by rw [show okSrv s = false from or_no hb0 (by simp only [hdSrv, ite_tt, ite_ff, gt_iff_lt, ge_iff_le, not_dlt, not_dle, bne_not, deq, decide_not, ne_eq, Bool.not_and, Bool.not_or, Bool.not_not, Bool.and_true, Bool.true_and, Bool.or_false, Bool.false_or, Int.toNat_natCast] <;> first | rfl | ac_rfl)], ⟨⟩⟩
  · have hh : hdSrv s = true := or_yes hb0 (by simp only [hdSrv, ite_tt, ite_ff, gt_iff_lt, ge_iff_le, not_dlt, not_dle, bne_not, deq, decide_not, ne_eq, Bool.not_and, Bool.not_or, Bool.not_not, Bool.and_true, Bool.true_and, Bool.or_false, Bool.false_or, Int.toNat_natCast] <;> first | rfl | ac_rfl)
    refine W.skip ?_
    refine W.seq ?_
    refine W.seq ?_
    refine W.reg X [] [] [1, 34, 35, 36] [] rfl ⟨⟩ ?_
    refine W.block ?_
    refine W.loopO (fun k => k ≤ s.received.length ∧ (List.range k).all (okRec s.rows s.received) = true) (fun k : Nat => [(36, .one (.a (.lit (.int .i64 k))))]) (fun k => []) (fun k => s.received.length - k) 0 (fun k => rfl) ⟨Nat.zero_le _, rfl⟩ rfl ?_
    rintro k ⟨hk, hall⟩
    have hw : (IntKind.i64.wrap ((k : Int) - 1)).toNat = k - 1 := by rw [i64w (by omega)]; omega
    refine W.seq ?_
    refine W.reg X [] [] [1, 34, 35, 36, 37] [] rfl ⟨⟩ ?_
    refine W.seq ?_
    refine W.cond rfl (fun hb1 => ?_) (fun hb1 => ?_)
    · try simp only [nb, inr_t, inr_f, isEmpty_t] at hb1
      refine W.skip ?_
      refine W.seq ?_
      refine W.block ?_
      refine W.seq ?_
      refine W.reg X [] [] [1, 3, 4, 34, 35, 36] [] rfl (by (repeat' (first | exact True.intro | apply And.intro)) <;> first | (intros; omega)) ?_
      refine W.seq ?_
      refine W.draw X [] [(43, ⟨false, [.a (.lit (.bool (inr ((s.received.getD k (dfl .RShare)).client) 0 7)))]⟩), (64, ⟨false, [.a (.lit (.bool (okDB ((s.received.getD k (dfl .RShare)).share))))]⟩)] [1, 34, 35, 36, 75] [] 35 MO (by kernel_rfl) rfl (by (repeat' (first | with_reducible exact AllP.nil | with_reducible refine AllP.mk ?_ ?_ | with_reducible apply And.intro)) <;> skip; (iterate 2 (all_goals try (first | exact (c_impl_InRange ((s.received.getD k (dfl .RShare)).client) 0 7) | exact fun _ => (c_impl_IsValidDatabase ((s.received.getD k (dfl .RShare)).share))))); all_goals (first | ((intro h1; first | (intro h2; first | (intro h3; refine And.intro ?_ ?_) | refine And.intro ?_ ?_) | refine And.intro ?_ ?_) <;> first | omega | ((try simp only [nb, inr_t, inr_f] at *); (try simp (disch := omega) only [i64w]); omega)))) ?_
      refine W.cond rfl (fun hb2 => ?_) (fun hb2 => ?_)
      · have hk2 : okRec s.rows s.received k = false := or_no1 hb2 (by simp only [hw, okRec, ite_tt, ite_ff, gt_iff_lt, ge_iff_le, not_dlt, not_dle, bne_not, deq, decide_not, ne_eq, Bool.not_and, Bool.not_or, Bool.not_not, Bool.and_true, Bool.true_and, Bool.or_false, Bool.false_or, Int.toNat_natCast] <;> first | rfl | ac_rfl)
        refine W.seq ?_
        refine W.reg X [] [] [2] [] rfl ⟨⟩ ?_
        refine W.ret ?_
        exact Fin.ret rfl ⟨by rw [show okSrv s = false by unfold okSrv; rw [range_no hb1 hk2]; simp], ⟨⟩⟩
      · have hk2 : okRec s.rows s.received k = true := or_yes hb2 (by simp only [hw, okRec, ite_tt, ite_ff, gt_iff_lt, ge_iff_le, not_dlt, not_dle, bne_not, deq, decide_not, ne_eq, Bool.not_and, Bool.not_or, Bool.not_not, Bool.and_true, Bool.true_and, Bool.or_false, Bool.false_or, Int.toNat_natCast] <;> first | rfl | ac_rfl)
        refine W.skip ?_
        refine W.reg X [] [] [1, 34, 35, 36] [] rfl ⟨⟩ ?_
        refine ⟨k + 1, ⟨by omega, range_all hall hk2⟩, by omega, ?_⟩
        rw [wadd _ k rfl (by omega)]
        try rfl
    · try simp only [nb, inr_t, inr_f, isEmpty_t] at hb1
      have hall2 : (List.range s.received.length).all (okRec s.rows s.received) = true := by rw [show s.received.length = k by omega]; exact hall
      refine W.exit ?_
      refine W.seq ?_
      refine W.reg X [] [] [2] [] rfl ⟨⟩ ?_
      refine W.ret ?_
      exact Fin.ret rfl ⟨by rw [show okSrv s = true by unfold okSrv; rw [hh, hall2]; rfl], ⟨⟩⟩
theorem c_impl_IsValidArchive (a : Arc) : Sound ty Tryz.prog 135 [.agg (dec_Arc a)] [.a (.lit (.bool (okArc a)))] := by
  refine Sound.of X Tryz.call135 Tryz.func135 rfl rfl (by decide) Tryz.ntmps135 (by simp) ?_
  intro zb
  refine W.boundA 0 1 rfl rfl (fun hll => ?_)
  refine W.seq ?_
  refine W.reg X [] [] [1] [] rfl ⟨⟩ ?_
  refine W.seq ?_
  refine W.seq ?_
  refine W.reg X [] [] [1, 6, 7, 8] [] rfl ⟨⟩ ?_
  refine W.block ?_
  refine W.loopO (fun k => k ≤ a.rounds.length ∧ (List.range k).all (okAr a.rows a.rounds) = true) (fun k : Nat => [(8, .one (.a (.lit (.int .i64 k))))]) (fun k => []) (fun k => a.rounds.length - k) 0 (fun k => rfl) ⟨Nat.zero_le _, rfl⟩ rfl ?_
  rintro k ⟨hk, hall⟩
  have hw : (IntKind.i64.wrap ((k : Int) - 1)).toNat = k - 1 := by rw [i64w (by omega)]; omega
  refine W.seq ?_
  refine W.reg X [] [] [1, 6, 7, 8, 9] [] rfl ⟨⟩ ?_
  refine W.seq ?_
  refine W.cond rfl (fun hb0 => ?_) (fun hb0 => ?_)
  · try simp only [nb, inr_t, inr_f, isEmpty_t] at hb0
    refine W.skip ?_
    refine W.seq ?_
    refine W.block ?_
    refine W.seq ?_
    refine W.reg X [] [] [1, 3, 4, 6, 7, 8] [] rfl (by (repeat' (first | exact True.intro | apply And.intro)) <;> first | (intros; omega)) ?_
    refine W.seq ?_
    refine W.draw X [] [(15, ⟨false, [.a (.lit (.bool (inr ((a.rounds.getD k (dfl .ARound)).round) 0 100000)))]⟩), (36, ⟨false, [.a (.lit (.bool (okDB ((a.rounds.getD k (dfl .ARound)).db))))]⟩)] [1, 6, 7, 8, 47] [] 35 MO (by kernel_rfl) rfl (by (repeat' (first | with_reducible exact AllP.nil | with_reducible refine AllP.mk ?_ ?_ | with_reducible apply And.intro)) <;> skip; (iterate 2 (all_goals try (first | exact (c_impl_InRange ((a.rounds.getD k (dfl .ARound)).round) 0 100000) | exact fun _ => (c_impl_IsValidDatabase ((a.rounds.getD k (dfl .ARound)).db))))); all_goals (first | ((intro h1; first | (intro h2; first | (intro h3; refine And.intro ?_ ?_) | refine And.intro ?_ ?_) | refine And.intro ?_ ?_) <;> first | omega | ((try simp only [nb, inr_t, inr_f] at *); (try simp (disch := omega) only [i64w]); omega)))) ?_
    refine W.cond rfl (fun hb1 => ?_) (fun hb1 => ?_)
    · have hk2 : okAr a.rows a.rounds k = false := or_no1 hb1 (by simp only [hw, okAr, ite_tt, ite_ff, gt_iff_lt, ge_iff_le, not_dlt, not_dle, bne_not, deq, decide_not, ne_eq, Bool.not_and, Bool.not_or, Bool.not_not, Bool.and_true, Bool.true_and, Bool.or_false, Bool.false_or, Int.toNat_natCast] <;> first | rfl | ac_rfl)
      refine W.seq ?_
      refine W.reg X [] [] [2] [] rfl ⟨⟩ ?_
      refine W.ret ?_
      exact Fin.ret rfl ⟨by rw [show okArc a = false by unfold okArc; rw [range_no hb0 hk2]; simp], ⟨⟩⟩
    · have hk2 : okAr a.rows a.rounds k = true := or_yes hb1 (by simp only [hw, okAr, ite_tt, ite_ff, gt_iff_lt, ge_iff_le, not_dlt, not_dle, bne_not, deq, decide_not, ne_eq, Bool.not_and, Bool.not_or, Bool.not_not, Bool.and_true, Bool.true_and, Bool.or_false, Bool.false_or, Int.toNat_natCast] <;> first | rfl | ac_rfl)
      refine W.skip ?_
      refine W.reg X [] [] [1, 6, 7, 8] [] rfl ⟨⟩ ?_
      refine ⟨k + 1, ⟨by omega, range_all hall hk2⟩, by omega, ?_⟩
      rw [wadd _ k rfl (by omega)]
      try rfl
  · try simp only [nb, inr_t, inr_f, isEmpty_t] at hb0
    have hall2 : (List.range a.rounds.length).all (okAr a.rows a.rounds) = true := by rw [show a.rounds.length = k by omega]; exact hall
    refine W.exit ?_
    refine W.seq ?_
    refine W.reg X [] [(51, ⟨false, [.a (.lit (.bool (inr a.rows 1 64)))]⟩)] [2] [] rfl (by (repeat' (first | with_reducible exact AllP.nil | with_reducible refine AllP.mk ?_ ?_ | with_reducible apply And.intro)) <;> skip; (iterate 1 (all_goals try (first | exact (c_impl_InRange a.rows 1 64))))) ?_
    refine W.ret ?_
    exact Fin.ret rfl ⟨(congrArg Value.bool (by simp only [okArc, hdArc, hall2, ite_tt, ite_ff, gt_iff_lt, ge_iff_le, not_dlt, not_dle, bne_not, deq, decide_not, ne_eq, Bool.not_and, Bool.not_or, Bool.not_not, Bool.and_true, Bool.true_and, Bool.or_false, Bool.false_or, Int.toNat_natCast] <;> first | rfl | ac_rfl)), ⟨⟩⟩
theorem c_spec_IsValidServer (s : Srv) : Sound ty Tryz.prog 186 [.agg (dec_Srv s)] [.a (.lit (.bool (okSrv s)))] := by
  refine Sound.of X Tryz.call186 Tryz.func186 rfl rfl (by decide) Tryz.ntmps186 (by simp) ?_
  intro zb
  refine W.boundA 0 3 rfl rfl (fun hll => ?_)
  refine W.seq ?_
  refine W.reg X [] [] [1] [] rfl ⟨⟩ ?_
  refine W.seq ?_
  refine W.seq ?_
  refine W.reg X [] [] [1, 3] [] rfl ⟨⟩ ?_
  refine W.block ?_
  refine W.loopO (fun k => k ≤ s.received.length ∧ (List.range k).all (okRec s.rows s.received) = true) (fun k : Nat => [(3, .one (.a (.lit (.int .i64 k))))]) (fun k => []) (fun k => s.received.length - k) 0 (fun k => rfl) ⟨Nat.zero_le _, rfl⟩ rfl ?_
  rintro k ⟨hk, hall⟩
  have hw : (IntKind.i64.wrap ((k : Int) - 1)).toNat = k - 1 := by rw [i64w (by omega)]; omega
  refine W.seq ?_
  refine W.seq ?_
  refine W.reg X [] [] [1, 3, 9] [] rfl ⟨⟩ ?_
  refine W.cond rfl (fun hb0 => ?_) (fun hb0 => ?_)
  · try simp only [nb, inr_t, inr_f, isEmpty_t] at hb0
    refine W.skip ?_
    refine W.seq ?_
    refine W.block ?_
    refine W.seq ?_
    refine W.reg X [] [] [1, 3, 4] [] rfl (by (repeat' (first | exact True.intro | apply And.intro)) <;> first | (intros; omega)) ?_
    refine W.seq ?_
    refine W.draw X [] [(19, ⟨false, [.a (.lit (.bool (inr ((s.received.getD k (dfl .RShare)).client) 0 7)))]⟩), (40, ⟨false, [.a (.lit (.bool (okDB ((s.received.getD k (dfl .RShare)).share))))]⟩)] [1, 3, 51] [] 35 MO (by kernel_rfl) rfl (by (repeat' (first | with_reducible exact AllP.nil | with_reducible refine AllP.mk ?_ ?_ | with_reducible apply And.intro)) <;> skip; (iterate 2 (all_goals try (first | exact (c_spec_l1In ((s.received.getD k (dfl .RShare)).client) 0 7) | exact fun _ => (c_spec_IsValidDatabase ((s.received.getD k (dfl .RShare)).share))))); all_goals (first | ((intro h1; first | (intro h2; first | (intro h3; refine And.intro ?_ ?_) | refine And.intro ?_ ?_) | refine And.intro ?_ ?_) <;> first | omega | ((try simp only [nb, inr_t, inr_f] at *); (try simp (disch := omega) only [i64w]); omega)))) ?_
    refine W.cond rfl (fun hb1 => ?_) (fun hb1 => ?_)
    · have hk2 : okRec s.rows s.received k = false := or_no1 hb1 (by simp only [hw, okRec, ite_tt, ite_ff, gt_iff_lt, ge_iff_le, not_dlt, not_dle, bne_not, deq, decide_not, ne_eq, Bool.not_and, Bool.not_or, Bool.not_not, Bool.and_true, Bool.true_and, Bool.or_false, Bool.false_or, Int.toNat_natCast] <;> first | rfl | ac_rfl)
      refine W.seq ?_
      refine W.reg X [] [] [2] [] rfl ⟨⟩ ?_
      refine W.ret ?_
      exact Fin.ret rfl ⟨by rw [show okSrv s = false by unfold okSrv; rw [range_no hb0 hk2]; simp], ⟨⟩⟩
    · have hk2 : okRec s.rows s.received k = true := or_yes hb1 (by simp only [hw, okRec, ite_tt, ite_ff, gt_iff_lt, ge_iff_le, not_dlt, not_dle, bne_not, deq, decide_not, ne_eq, Bool.not_and, Bool.not_or, Bool.not_not, Bool.and_true, Bool.true_and, Bool.or_false, Bool.false_or, Int.toNat_natCast] <;> first | rfl | ac_rfl)
      refine W.skip ?_
      refine W.reg X [] [] [1, 3] [] rfl ⟨⟩ ?_
      refine ⟨k + 1, ⟨by omega, range_all hall hk2⟩, by omega, ?_⟩
      rw [wadd _ k rfl (by omega)]
      try rfl
  · try simp only [nb, inr_t, inr_f, isEmpty_t] at hb0
    have hall2 : (List.range s.received.length).all (okRec s.rows s.received) = true := by rw [show s.received.length = k by omega]; exact hall
    refine W.exit ?_
    refine W.seq ?_
    refine W.reg X [] [(54, ⟨false, [.a (.lit (.bool (inr s.id 0 3)))]⟩), (58, ⟨false, [.a (.lit (.bool (inr s.rows 1 64)))]⟩), (63, ⟨false, [.a (.lit (.bool (inr s.behavior 0 3)))]⟩), (68, ⟨false, [.a (.lit (.bool (inr s.round 0 100000)))]⟩)] [2] [] rfl (by (repeat' (first | with_reducible exact AllP.nil | with_reducible refine AllP.mk ?_ ?_ | with_reducible apply And.intro)) <;> skip; (iterate 4 (all_goals try (first | exact (c_spec_l1In s.id 0 3) | exact fun _ => (c_spec_l1In s.rows 1 64) | exact fun _ => (c_spec_l1In s.behavior 0 3) | exact fun _ => (c_spec_l1In s.round 0 100000))))) ?_
    refine W.ret ?_
    exact Fin.ret rfl ⟨(congrArg Value.bool (by simp only [okSrv, hdSrv, hall2, ite_tt, ite_ff, gt_iff_lt, ge_iff_le, not_dlt, not_dle, bne_not, deq, decide_not, ne_eq, Bool.not_and, Bool.not_or, Bool.not_not, Bool.and_true, Bool.true_and, Bool.or_false, Bool.false_or, Int.toNat_natCast] <;> first | rfl | ac_rfl)), ⟨⟩⟩
theorem c_spec_IsValidArchive (a : Arc) : Sound ty Tryz.prog 121 [.agg (dec_Arc a)] [.a (.lit (.bool (okArc a)))] := by
  refine Sound.of X Tryz.call121 Tryz.func121 rfl rfl (by decide) Tryz.ntmps121 (by simp) ?_
  intro zb
  refine W.boundA 0 1 rfl rfl (fun hll => ?_)
  refine W.seq ?_
  refine W.reg X [] [] [1] [] rfl ⟨⟩ ?_
  refine W.seq ?_
  refine W.seq ?_
  refine W.reg X [] [] [1, 3] [] rfl ⟨⟩ ?_
  refine W.block ?_
  refine W.loopO (fun k => k ≤ a.rounds.length ∧ (List.range k).all (okAr a.rows a.rounds) = true) (fun k : Nat => [(3, .one (.a (.lit (.int .i64 k))))]) (fun k => []) (fun k => a.rounds.length - k) 0 (fun k => rfl) ⟨Nat.zero_le _, rfl⟩ rfl ?_
  rintro k ⟨hk, hall⟩
  have hw : (IntKind.i64.wrap ((k : Int) - 1)).toNat = k - 1 := by rw [i64w (by omega)]; omega
  refine W.seq ?_
  refine W.seq ?_
  refine W.reg X [] [] [1, 3, 9] [] rfl ⟨⟩ ?_
  refine W.cond rfl (fun hb0 => ?_) (fun hb0 => ?_)
  · try simp only [nb, inr_t, inr_f, isEmpty_t] at hb0
    refine W.skip ?_
    refine W.seq ?_
    refine W.block ?_
    refine W.seq ?_
    refine W.reg X [] [] [1, 3, 4] [] rfl (by (repeat' (first | exact True.intro | apply And.intro)) <;> first | (intros; omega)) ?_
    refine W.seq ?_
    refine W.draw X [] [(19, ⟨false, [.a (.lit (.bool (inr ((a.rounds.getD k (dfl .ARound)).round) 0 100000)))]⟩), (40, ⟨false, [.a (.lit (.bool (okDB ((a.rounds.getD k (dfl .ARound)).db))))]⟩)] [1, 3, 51] [] 35 MO (by kernel_rfl) rfl (by (repeat' (first | with_reducible exact AllP.nil | with_reducible refine AllP.mk ?_ ?_ | with_reducible apply And.intro)) <;> skip; (iterate 2 (all_goals try (first | exact (c_spec_l1In ((a.rounds.getD k (dfl .ARound)).round) 0 100000) | exact fun _ => (c_spec_IsValidDatabase ((a.rounds.getD k (dfl .ARound)).db))))); all_goals (first | ((intro h1; first | (intro h2; first | (intro h3; refine And.intro ?_ ?_) | refine And.intro ?_ ?_) | refine And.intro ?_ ?_) <;> first | omega | ((try simp only [nb, inr_t, inr_f] at *); (try simp (disch := omega) only [i64w]); omega)))) ?_
    refine W.cond rfl (fun hb1 => ?_) (fun hb1 => ?_)
    · have hk2 : okAr a.rows a.rounds k = false := or_no1 hb1 (by simp only [hw, okAr, ite_tt, ite_ff, gt_iff_lt, ge_iff_le, not_dlt, not_dle, bne_not, deq, decide_not, ne_eq, Bool.not_and, Bool.not_or, Bool.not_not, Bool.and_true, Bool.true_and, Bool.or_false, Bool.false_or, Int.toNat_natCast] <;> first | rfl | ac_rfl)
      refine W.seq ?_
      refine W.reg X [] [] [2] [] rfl ⟨⟩ ?_
      refine W.ret ?_
      exact Fin.ret rfl ⟨by rw [show okArc a = false by unfold okArc; rw [range_no hb0 hk2]; simp], ⟨⟩⟩
    · have hk2 : okAr a.rows a.rounds k = true := or_yes hb1 (by simp only [hw, okAr, ite_tt, ite_ff, gt_iff_lt, ge_iff_le, not_dlt, not_dle, bne_not, deq, decide_not, ne_eq, Bool.not_and, Bool.not_or, Bool.not_not, Bool.and_true, Bool.true_and, Bool.or_false, Bool.false_or, Int.toNat_natCast] <;> first | rfl | ac_rfl)
      refine W.skip ?_
      refine W.reg X [] [] [1, 3] [] rfl ⟨⟩ ?_
      refine ⟨k + 1, ⟨by omega, range_all hall hk2⟩, by omega, ?_⟩
      rw [wadd _ k rfl (by omega)]
      try rfl
  · try simp only [nb, inr_t, inr_f, isEmpty_t] at hb0
    have hall2 : (List.range a.rounds.length).all (okAr a.rows a.rounds) = true := by rw [show a.rounds.length = k by omega]; exact hall
    refine W.exit ?_
    refine W.seq ?_
    refine W.reg X [] [(54, ⟨false, [.a (.lit (.bool (inr a.rows 1 64)))]⟩)] [2] [] rfl (by (repeat' (first | with_reducible exact AllP.nil | with_reducible refine AllP.mk ?_ ?_ | with_reducible apply And.intro)) <;> skip; (iterate 1 (all_goals try (first | exact (c_spec_l1In a.rows 1 64))))) ?_
    refine W.ret ?_
    exact Fin.ret rfl ⟨(congrArg Value.bool (by simp only [okArc, hdArc, hall2, ite_tt, ite_ff, gt_iff_lt, ge_iff_le, not_dlt, not_dle, bne_not, deq, decide_not, ne_eq, Bool.not_and, Bool.not_or, Bool.not_not, Bool.and_true, Bool.true_and, Bool.or_false, Bool.false_or, Int.toNat_natCast] <;> first | rfl | ac_rfl)), ⟨⟩⟩
theorem str8_toList (a : List UInt8) : (str8 a).toList = a := by
  rw [ByteArray.toList_eq]; rfl
theorem c_spec_EqualBytes (a b : List UInt8) : Sound ty Tryz.prog 157 [.a (.sl .u8 a), .a (.sl .u8 b)] [.a (.lit (.bool (a == b)))] := by
  refine Sound.of X Tryz.call157 Tryz.func157 rfl rfl (by decide) Tryz.ntmps157 (by simp) ?_
  intro zb
  refine W.seq ?_
  refine W.reg X [] [] [0, 1] [] rfl ⟨⟩ ?_
  refine W.seq ?_
  refine W.reg X [] [] [4] [] rfl ⟨⟩ ?_
  refine W.ret ?_
  exact Fin.ret rfl ⟨by rw [str8_toList, str8_toList], ⟨⟩⟩
theorem c_slices_Equal_byte_byte (a b : List UInt8) : Sound ty Tryz.prog 235 [.a (.sl .u8 a), .a (.sl .u8 b)] [.a (.lit (.bool (a == b)))] := by
  refine Sound.of X Tryz.call235 Tryz.func235 rfl rfl (by decide) Tryz.ntmps235 (by simp) ?_
  intro zb
  refine W.bound 0 rfl (fun hl1 => ?_)
  refine W.bound 1 rfl (fun hl2 => ?_)
  refine W.seq ?_
  refine W.reg X [] [] [0, 1] [] rfl ⟨⟩ ?_
  refine W.seq ?_
  refine W.seq ?_
  refine W.reg X [] [] [0, 1, 10] [] rfl ⟨⟩ ?_
  refine W.cond rfl (fun hb0 => ?_) (fun hb0 => ?_)
  · try simp only [nb, inr_t, inr_f, isEmpty_t] at hb0
    refine W.seq ?_
    refine W.reg X [] [] [4] [] rfl ⟨⟩ ?_
    refine W.ret ?_
    exact Fin.ret rfl ⟨by rw [ne_of_len a b hb0], ⟨⟩⟩
  · try simp only [nb, inr_t, inr_f, isEmpty_t] at hb0
    refine W.skip ?_
    refine W.seq ?_
    refine W.seq ?_
    refine W.reg X [] [] [0, 1, 12, 13] [] rfl ⟨⟩ ?_
    refine W.block ?_
    refine W.loopO (fun k => k ≤ a.length ∧ a.take k = b.take k) (fun k : Nat => [(13, .one (.a (.lit (.int .i64 k))))]) (fun k => []) (fun k => a.length - k) 0 (fun k => rfl) ⟨Nat.zero_le _, rfl⟩ rfl ?_
    rintro k ⟨hk, hall⟩
    refine W.seq ?_
    refine W.reg X [] [] [0, 1, 12, 13, 14] [] rfl ⟨⟩ ?_
    refine W.seq ?_
    refine W.cond rfl (fun hb1 => ?_) (fun hb1 => ?_)
    · try simp only [nb, inr_t, inr_f, isEmpty_t] at hb1
      refine W.skip ?_
      refine W.seq ?_
      refine W.block ?_
      refine W.seq ?_
      refine W.reg X [] [] [0, 1, 5, 12, 13] [] rfl ⟨⟩ ?_
      refine W.seq ?_
      refine W.draw X [] [] [0, 1, 12, 13, 24] [] 9 MO (by kernel_rfl) rfl (by (repeat' (first | exact True.intro | apply And.intro)) <;> first | (intros; omega)) ?_
      refine W.cond rfl (fun hb2 => ?_) (fun hb2 => ?_)
      · try simp only [nb, inr_t, inr_f, isEmpty_t] at hb2
        have hne := ne_of_getD a b (dfl .u8) k (fun h => hb2 (by rw [h]))
        refine W.seq ?_
        refine W.reg X [] [] [4] [] rfl ⟨⟩ ?_
        refine W.ret ?_
        exact Fin.ret rfl ⟨by rw [hne], ⟨⟩⟩
      · try simp only [nb, inr_t, inr_f, isEmpty_t] at hb2
        have he : a.getD k (dfl .u8) = b.getD k (dfl .u8) := u8_inj hb2
        refine W.skip ?_
        refine W.reg X [] [] [0, 1, 12, 13] [] rfl ⟨⟩ ?_
        refine ⟨k + 1, ⟨by omega, take_eq_step a b (dfl .u8) k hb1 (by omega) hall he⟩, by omega, ?_⟩
        rw [wadd _ k rfl (by omega)]
        try rfl
    · try simp only [nb, inr_t, inr_f, isEmpty_t] at hb1
      refine W.exit ?_
      refine W.seq ?_
      refine W.reg X [] [] [4] [] rfl ⟨⟩ ?_
      refine W.ret ?_
      exact Fin.ret rfl ⟨by rw [eq_of_take a b k (by omega) (by omega) hall], ⟨⟩⟩
theorem c_spec_EqualLists (a b : List (List UInt8)) : Sound ty Tryz.prog 155 [.a (.sl (.sl .u8) a), .a (.sl (.sl .u8) b)] [.a (.lit (.bool (a == b)))] := by
  refine Sound.of X Tryz.call155 Tryz.func155 rfl rfl (by decide) Tryz.ntmps155 (by simp) ?_
  intro zb
  refine W.bound 0 rfl (fun hl1 => ?_)
  refine W.bound 1 rfl (fun hl2 => ?_)
  refine W.seq ?_
  refine W.reg X [] [] [0, 1] [] rfl ⟨⟩ ?_
  refine W.seq ?_
  refine W.seq ?_
  refine W.reg X [] [] [0, 1, 10] [] rfl ⟨⟩ ?_
  refine W.cond rfl (fun hb0 => ?_) (fun hb0 => ?_)
  · try simp only [nb, inr_t, inr_f, isEmpty_t] at hb0
    refine W.seq ?_
    refine W.reg X [] [] [4] [] rfl ⟨⟩ ?_
    refine W.ret ?_
    exact Fin.ret rfl ⟨by rw [ne_of_len a b hb0], ⟨⟩⟩
  · try simp only [nb, inr_t, inr_f, isEmpty_t] at hb0
    refine W.skip ?_
    refine W.seq ?_
    refine W.seq ?_
    refine W.reg X [] [] [0, 1, 5] [] rfl ⟨⟩ ?_
    refine W.block ?_
    refine W.loopO (fun k => k ≤ a.length ∧ a.take k = b.take k) (fun k : Nat => [(5, .one (.a (.lit (.int .i64 k))))]) (fun k => []) (fun k => a.length - k) 0 (fun k => rfl) ⟨Nat.zero_le _, rfl⟩ rfl ?_
    rintro k ⟨hk, hall⟩
    refine W.seq ?_
    refine W.seq ?_
    refine W.reg X [] [] [0, 1, 5, 14] [] rfl ⟨⟩ ?_
    refine W.cond rfl (fun hb1 => ?_) (fun hb1 => ?_)
    · try simp only [nb, inr_t, inr_f, isEmpty_t] at hb1
      refine W.skip ?_
      refine W.seq ?_
      refine W.block ?_
      refine W.seq ?_
      refine W.draw X [] [(25, ⟨false, [.a (.lit (.bool _))]⟩)] [0, 1, 5, 26] [] 10 MO (by kernel_rfl) rfl (by (repeat' (first | with_reducible exact AllP.nil | with_reducible refine AllP.mk ?_ ?_ | with_reducible apply And.intro)) <;> skip; (iterate 1 (all_goals try (first | exact (c_spec_EqualBytes _ _)))); all_goals (first | (intros; omega))) ?_
      refine W.cond rfl (fun hb2 => ?_) (fun hb2 => ?_)
      · try simp only [nb, inr_t, inr_f, isEmpty_t] at hb2
        have hne := ne_of_getD a b (dfl (.sl .u8)) k (fun h => hb2 (by rw [h]))
        refine W.seq ?_
        refine W.reg X [] [] [4] [] rfl ⟨⟩ ?_
        refine W.ret ?_
        exact Fin.ret rfl ⟨by rw [hne], ⟨⟩⟩
      · try simp only [nb, inr_t, inr_f, isEmpty_t] at hb2
        have he : a.getD k (dfl (.sl .u8)) = b.getD k (dfl (.sl .u8)) := hb2
        refine W.skip ?_
        refine W.reg X [] [] [0, 1, 5] [] rfl ⟨⟩ ?_
        refine ⟨k + 1, ⟨by omega, take_eq_step a b (dfl (.sl .u8)) k hb1 (by omega) hall he⟩, by omega, ?_⟩
        rw [wadd _ k rfl (by omega)]
        try rfl
    · try simp only [nb, inr_t, inr_f, isEmpty_t] at hb1
      refine W.exit ?_
      refine W.seq ?_
      refine W.reg X [] [] [4] [] rfl ⟨⟩ ?_
      refine W.ret ?_
      exact Fin.ret rfl ⟨by rw [eq_of_take a b k (by omega) (by omega) hall], ⟨⟩⟩
theorem c_impl_EqualBytes (a b : List UInt8) : Sound ty Tryz.prog 163 [.a (.sl .u8 a), .a (.sl .u8 b)] [.a (.lit (.bool (a == b)))] := by
  refine Sound.of X Tryz.call163 Tryz.func163 rfl rfl (by decide) Tryz.ntmps163 (by simp) ?_
  intro zb
  refine W.seq ?_
  refine W.reg X [] [] [0, 1] [] rfl ⟨⟩ ?_
  refine W.seq ?_
  refine W.reg X [] [(7, ⟨false, [.a (.lit (.bool _))]⟩)] [4] [] rfl (by (repeat' (first | with_reducible exact AllP.nil | with_reducible refine AllP.mk ?_ ?_ | with_reducible apply And.intro)) <;> skip; (iterate 1 (all_goals try (first | exact (c_slices_Equal_byte_byte _ _))))) ?_
  refine W.ret ?_
  exact Fin.ret rfl ⟨rfl, ⟨⟩⟩
theorem c_slices_EqualFunc_byte_byte_byte_byte (a b : List (List UInt8)) : Sound ty Tryz.prog 239 [.a (.sl (.sl .u8) a), .a (.sl (.sl .u8) b), .a (.lit (.func (.func 163) #[] #[]))] [.a (.lit (.bool (a == b)))] := by
  refine Sound.of X Tryz.call239 Tryz.func239 rfl rfl (by decide) Tryz.ntmps239 (by simp) ?_
  intro zb
  refine W.bound 0 rfl (fun hl1 => ?_)
  refine W.bound 1 rfl (fun hl2 => ?_)
  refine W.seq ?_
  refine W.reg X [] [] [0, 1, 2] [] rfl ⟨⟩ ?_
  refine W.seq ?_
  refine W.seq ?_
  refine W.reg X [] [] [0, 1, 2, 14] [] rfl ⟨⟩ ?_
  refine W.cond rfl (fun hb0 => ?_) (fun hb0 => ?_)
  · try simp only [nb, inr_t, inr_f, isEmpty_t] at hb0
    refine W.seq ?_
    refine W.reg X [] [] [6] [] rfl ⟨⟩ ?_
    refine W.ret ?_
    exact Fin.ret rfl ⟨by rw [ne_of_len a b hb0], ⟨⟩⟩
  · try simp only [nb, inr_t, inr_f, isEmpty_t] at hb0
    refine W.skip ?_
    refine W.seq ?_
    refine W.seq ?_
    refine W.reg X [] [] [1, 2, 15, 16, 17] [] rfl ⟨⟩ ?_
    refine W.block ?_
    refine W.loopO (fun k => k ≤ a.length ∧ a.take k = b.take k) (fun k : Nat => [(17, .one (.a (.lit (.int .i64 k))))]) (fun k => []) (fun k => a.length - k) 0 (fun k => rfl) ⟨Nat.zero_le _, rfl⟩ rfl ?_
    rintro k ⟨hk, hall⟩
    refine W.seq ?_
    refine W.reg X [] [] [1, 2, 15, 16, 17, 18] [] rfl ⟨⟩ ?_
    refine W.seq ?_
    refine W.cond rfl (fun hb1 => ?_) (fun hb1 => ?_)
    · try simp only [nb, inr_t, inr_f, isEmpty_t] at hb1
      refine W.skip ?_
      refine W.seq ?_
      refine W.block ?_
      refine W.seq ?_
      refine W.reg X [] [] [1, 2, 7, 8, 15, 16, 17] [] rfl (by (repeat' (first | exact True.intro | apply And.intro)) <;> first | (intros; omega)) ?_
      refine W.seq ?_
      refine W.reg X [] [] [1, 2, 8, 9, 15, 16, 17] [] rfl (by (repeat' (first | exact True.intro | apply And.intro)) <;> first | (intros; omega)) ?_
      refine W.seq ?_
      refine W.reg X [] [(29, ⟨false, [.a (.lit (.bool (a.getD k (dfl (.sl .u8)) == b.getD k (dfl (.sl .u8)))))]⟩)] [1, 2, 15, 16, 17, 30] [] rfl (by (repeat' (first | with_reducible exact AllP.nil | with_reducible refine AllP.mk ?_ ?_ | with_reducible apply And.intro)) <;> skip; (iterate 1 (all_goals try (first | exact (c_impl_EqualBytes _ _))))) ?_
      refine W.cond rfl (fun hb2 => ?_) (fun hb2 => ?_)
      · try simp only [nb, inr_t, inr_f, isEmpty_t] at hb2
        have hne := ne_of_getD a b (dfl (.sl .u8)) k (fun h => hb2 (by rw [h]))
        refine W.seq ?_
        refine W.reg X [] [] [6] [] rfl ⟨⟩ ?_
        refine W.ret ?_
        exact Fin.ret rfl ⟨by rw [hne], ⟨⟩⟩
      · try simp only [nb, inr_t, inr_f, isEmpty_t] at hb2
        have he : a.getD k (dfl (.sl .u8)) = b.getD k (dfl (.sl .u8)) := hb2
        refine W.skip ?_
        refine W.reg X [] [] [1, 2, 15, 16, 17] [] rfl ⟨⟩ ?_
        refine ⟨k + 1, ⟨by omega, take_eq_step a b (dfl (.sl .u8)) k hb1 (by omega) hall he⟩, by omega, ?_⟩
        rw [wadd _ k rfl (by omega)]
        try rfl
    · try simp only [nb, inr_t, inr_f, isEmpty_t] at hb1
      refine W.exit ?_
      refine W.seq ?_
      refine W.reg X [] [] [6] [] rfl ⟨⟩ ?_
      refine W.ret ?_
      exact Fin.ret rfl ⟨by rw [eq_of_take a b k (by omega) (by omega) hall], ⟨⟩⟩
theorem c_impl_EqualLists (a b : List (List UInt8)) : Sound ty Tryz.prog 169 [.a (.sl (.sl .u8) a), .a (.sl (.sl .u8) b)] [.a (.lit (.bool (a == b)))] := by
  refine Sound.of X Tryz.call169 Tryz.func169 rfl rfl (by decide) Tryz.ntmps169 (by simp) ?_
  intro zb
  refine W.seq ?_
  refine W.reg X [] [] [0, 1] [] rfl ⟨⟩ ?_
  refine W.seq ?_
  refine W.reg X [] [(7, ⟨false, [.a (.lit (.bool _))]⟩)] [4] [] rfl (by (repeat' (first | with_reducible exact AllP.nil | with_reducible refine AllP.mk ?_ ?_ | with_reducible apply And.intro)) <;> skip; (iterate 1 (all_goals try (first | exact (c_slices_EqualFunc_byte_byte_byte_byte _ _))))) ?_
  refine W.ret ?_
  exact Fin.ret rfl ⟨rfl, ⟨⟩⟩
theorem c_impl_IsValidClient_1 (b : List UInt8) : Sound ty Tryz.prog 222 [.a (.sl .u8 b)] [.a (.lit (.bool (long b)))] := by
  refine Sound.of X Tryz.call222 Tryz.func222 rfl rfl (by decide) Tryz.ntmps222 (by simp) ?_
  intro zb
  refine W.seq ?_
  refine W.reg X [] [] [0] [] rfl ⟨⟩ ?_
  refine W.seq ?_
  refine W.reg X [] [] [2] [] rfl ⟨⟩ ?_
  refine W.ret ?_
  exact Fin.ret rfl ⟨rfl, ⟨⟩⟩
theorem c_impl_isServerCount (n : Int) : Sound ty Tryz.prog 134 [.a (.lit (.int .i64 n))] [.a (.lit (.bool (srvCnt n)))] := by
  refine Sound.of X Tryz.call134 Tryz.func134 rfl rfl (by decide) Tryz.ntmps134 (by simp) ?_
  intro zb
  refine W.seq ?_
  refine W.reg X [] [] [0] [] rfl ⟨⟩ ?_
  refine W.seq ?_
  refine W.reg X [] [(4, ⟨false, [.a (.lit (.bool _))]⟩)] [2] [] rfl (by (repeat' (first | with_reducible exact AllP.nil | with_reducible refine AllP.mk ?_ ?_ | with_reducible apply And.intro)) <;> skip; (iterate 1 (all_goals try (first | exact (c_impl_InRange _ _ _))))) ?_
  refine W.ret ?_
  exact Fin.ret rfl ⟨rfl, ⟨⟩⟩
theorem c_spec_l7Count (n : Int) : Sound ty Tryz.prog 207 [.a (.lit (.int .i64 n))] [.a (.lit (.bool (srvCnt n)))] := by
  refine Sound.of X Tryz.call207 Tryz.func207 rfl rfl (by decide) Tryz.ntmps207 (by simp) ?_
  intro zb
  refine W.seq ?_
  refine W.reg X [] [] [0] [] rfl ⟨⟩ ?_
  refine W.seq ?_
  refine W.reg X [] [(4, ⟨false, [.a (.lit (.bool _))]⟩)] [2] [] rfl (by (repeat' (first | with_reducible exact AllP.nil | with_reducible refine AllP.mk ?_ ?_ | with_reducible apply And.intro)) <;> skip; (iterate 1 (all_goals try (first | exact (c_spec_l1In _ _ _))))) ?_
  refine W.ret ?_
  exact Fin.ret rfl ⟨rfl, ⟨⟩⟩
theorem c_impl_IsValidClient (c : Cli) : Sound ty Tryz.prog 140 [.agg (dec_Cli c)] [.a (.lit (.bool (okCli c)))] := by
  refine Sound.of X Tryz.call140 Tryz.func140 rfl rfl (by decide) Tryz.ntmps140 (by simp) ?_
  intro zb
  refine W.seq ?_
  refine W.reg X [] [] [1] [] rfl ⟨⟩ ?_
  refine W.seq ?_
  refine W.reg X [] [] [1, 3] [] rfl ⟨⟩ ?_
  refine W.seq ?_
  refine W.reg X [] [(6, ⟨false, [.a (.lit (.bool (inr c.id 0 7)))]⟩), (10, ⟨false, [.a (.lit (.bool (inr c.friend 0 7)))]⟩), (22, ⟨false, [.a (.lit (.bool (okKey c.key)))]⟩), (40, ⟨false, [.a (.lit (.bool (c.submitted.any long)))]⟩), (47, ⟨false, [.a (.lit (.bool (c.inbox.any long)))]⟩), (56, ⟨false, [.a (.lit (.bool (inr c.sent 0 (c.submitted.length : Int))))]⟩), (61, ⟨false, [.a (.lit (.bool (inr c.next 0 100000)))]⟩)] [2] [] rfl (by (repeat' (first | with_reducible exact AllP.nil | with_reducible refine AllP.mk ?_ ?_ | with_reducible apply And.intro)) <;> skip; (iterate 7 (all_goals try (first | exact (c_impl_InRange c.id 0 7) | exact fun _ => (c_impl_InRange c.friend 0 7) | exact fun _ => (c_impl_IsValidKey c.key) | exact fun _ => (c_slices_ContainsFunc_byte_byte _ _ _ c_impl_IsValidClient_1) | exact fun _ => (c_impl_InRange c.sent 0 (c.submitted.length : Int)) | exact fun _ => (c_impl_InRange c.next 0 100000))))) ?_
  refine W.ret ?_
  exact Fin.ret rfl ⟨(congrArg Value.bool (by simp only [okCli, ite_tt, ite_ff, gt_iff_lt, ge_iff_le, not_dlt, not_dle, bne_not, deq, decide_not, ne_eq, Bool.not_and, Bool.not_or, Bool.not_not, Bool.and_true, Bool.true_and, Bool.or_false, Bool.false_or, Int.toNat_natCast] <;> first | rfl | ac_rfl)), ⟨⟩⟩
theorem c_spec_l29Ok (i f k : Int) : Sound ty Tryz.prog 210 [.a (.lit (.int .i64 i)), .a (.lit (.int .i64 f)), .a (.lit (.int .i64 k))] [.a (.lit (.bool (inr i 0 7 && inr f 0 7 && !(i == f) && okKey k)))] := by
  refine Sound.of X Tryz.call210 Tryz.func210 rfl rfl (by decide) Tryz.ntmps210 (by simp) ?_
  intro zb
  refine W.seq ?_
  refine W.reg X [] [] [0, 1, 2] [] rfl ⟨⟩ ?_
  refine W.seq ?_
  refine W.reg X [] [(8, ⟨false, [.a (.lit (.bool (inr i 0 7)))]⟩), (11, ⟨false, [.a (.lit (.bool (inr f 0 7)))]⟩), (20, ⟨false, [.a (.lit (.bool (okKey k)))]⟩)] [6] [] rfl (by (repeat' (first | with_reducible exact AllP.nil | with_reducible refine AllP.mk ?_ ?_ | with_reducible apply And.intro)) <;> skip; (iterate 3 (all_goals try (first | exact (c_spec_l1In i 0 7) | exact fun _ => (c_spec_l1In f 0 7) | exact fun _ => (c_spec_IsValidKey k))))) ?_
  refine W.ret ?_
  exact Fin.ret rfl ⟨(congrArg Value.bool (by simp only [ite_tt, ite_ff, gt_iff_lt, ge_iff_le, not_dlt, not_dle, bne_not, deq, decide_not, ne_eq, Bool.not_and, Bool.not_or, Bool.not_not, Bool.and_true, Bool.true_and, Bool.or_false, Bool.false_or, Int.toNat_natCast] <;> first | rfl | ac_rfl)), ⟨⟩⟩
theorem c_spec_l29Bodies (l : List (List UInt8)) : Sound ty Tryz.prog 211 [.a (.sl (.sl .u8) l)] [.a (.lit (.bool (decide ((l.length : Int) ≤ 16) && !l.any long)))] := by
  refine Sound.of X Tryz.call211 Tryz.func211 rfl rfl (by decide) Tryz.ntmps211 (by simp) ?_
  intro zb
  refine W.bound 0 rfl (fun hll => ?_)
  refine W.seq ?_
  refine W.reg X [] [] [0] [] rfl ⟨⟩ ?_
  refine W.seq ?_
  refine W.seq ?_
  refine W.reg X [] [] [0, 3] [] rfl ⟨⟩ ?_
  refine W.block ?_
  refine W.loopO (fun k => k ≤ l.length ∧ (l.take k).any long = false) (fun k : Nat => [(3, .one (.a (.lit (.int .i64 k))))]) (fun k => []) (fun k => l.length - k) 0 (fun k => rfl) ⟨Nat.zero_le _, rfl⟩ rfl ?_
  rintro k ⟨hk, hall⟩
  refine W.seq ?_
  refine W.seq ?_
  refine W.reg X [] [] [0, 3, 7] [] rfl ⟨⟩ ?_
  refine W.cond rfl (fun hb0 => ?_) (fun hb0 => ?_)
  · try simp only [nb, inr_t, inr_f, isEmpty_t] at hb0
    refine W.skip ?_
    refine W.seq ?_
    refine W.block ?_
    refine W.seq ?_
    refine W.reg X [] [] [0, 3, 15] [] rfl (by (repeat' (first | exact True.intro | apply And.intro)) <;> first | (intros; omega)) ?_
    refine W.cond rfl (fun hb1 => ?_) (fun hb1 => ?_)
    · skip
      refine W.seq ?_
      refine W.reg X [] [] [2] [] rfl ⟨⟩ ?_
      refine W.ret ?_
      exact Fin.ret rfl ⟨by rw [any_yes l long (dfl (.sl .u8)) k hb0 hb1]; simp, ⟨⟩⟩
    · skip
      refine W.skip ?_
      refine W.reg X [] [] [0, 3] [] rfl ⟨⟩ ?_
      refine ⟨k + 1, ⟨by omega, any_no (dfl (.sl .u8)) hb0 hall hb1⟩, by omega, ?_⟩
      rw [wadd _ k rfl (by omega)]
      try rfl
  · try simp only [nb, inr_t, inr_f, isEmpty_t] at hb0
    have hall2 : l.any long = false := by rw [← hall, List.take_of_length_le hb0]
    refine W.exit ?_
    refine W.seq ?_
    refine W.reg X [] [] [2] [] rfl ⟨⟩ ?_
    refine W.ret ?_
    exact Fin.ret rfl ⟨by rw [hall2]; simp, ⟨⟩⟩
theorem c_spec_IsValidClient (c : Cli) : Sound ty Tryz.prog 124 [.agg (dec_Cli c)] [.a (.lit (.bool (okCli c)))] := by
  refine Sound.of X Tryz.call124 Tryz.func124 rfl rfl (by decide) Tryz.ntmps124 (by simp) ?_
  intro zb
  refine W.seq ?_
  refine W.reg X [] [] [1] [] rfl ⟨⟩ ?_
  refine W.seq ?_
  refine W.reg X [] [(9, ⟨false, [.a (.lit (.bool (inr c.id 0 7 && inr c.friend 0 7 && !(c.id == c.friend) && okKey c.key)))]⟩), (13, ⟨false, [.a (.lit (.bool (decide ((c.submitted.length : Int) ≤ 16) && !c.submitted.any long)))]⟩), (18, ⟨false, [.a (.lit (.bool (decide ((c.inbox.length : Int) ≤ 16) && !c.inbox.any long)))]⟩), (26, ⟨false, [.a (.lit (.bool (inr c.sent 0 (c.submitted.length : Int))))]⟩), (31, ⟨false, [.a (.lit (.bool (inr c.next 0 100000)))]⟩)] [2] [] rfl (by (repeat' (first | with_reducible exact AllP.nil | with_reducible refine AllP.mk ?_ ?_ | with_reducible apply And.intro)) <;> skip; (iterate 5 (all_goals try (first | exact (c_spec_l29Ok c.id c.friend c.key) | exact fun _ => (c_spec_l29Bodies c.submitted) | exact fun _ => (c_spec_l29Bodies c.inbox) | exact fun _ => (c_spec_l1In c.sent 0 (c.submitted.length : Int)) | exact fun _ => (c_spec_l1In c.next 0 100000))))) ?_
  refine W.ret ?_
  exact Fin.ret rfl ⟨(congrArg Value.bool (by simp only [okCli, ite_tt, ite_ff, gt_iff_lt, ge_iff_le, not_dlt, not_dle, bne_not, deq, decide_not, ne_eq, Bool.not_and, Bool.not_or, Bool.not_not, Bool.and_true, Bool.true_and, Bool.or_false, Bool.false_or, Int.toNat_natCast] <;> first | rfl | ac_rfl)), ⟨⟩⟩
theorem c_impl_sameOwner (a b : Cli) : Sound ty Tryz.prog 221 [.agg (dec_Cli a), .agg (dec_Cli b)] [.a (.lit (.bool (sameOwn a b)))] := by
  refine Sound.of X Tryz.call221 Tryz.func221 rfl rfl (by decide) Tryz.ntmps221 (by simp) ?_
  intro zb
  refine W.seq ?_
  refine W.reg X [] [] [2, 3] [] rfl ⟨⟩ ?_
  refine W.seq ?_
  refine W.reg X [] [(36, ⟨false, [.a (.lit (.bool (a.submitted == b.submitted)))]⟩)] [4] [] rfl (by (repeat' (first | with_reducible exact AllP.nil | with_reducible refine AllP.mk ?_ ?_ | with_reducible apply And.intro)) <;> skip; (iterate 1 (all_goals try (first | exact fun _ => (c_impl_EqualLists a.submitted b.submitted))))) ?_
  refine W.ret ?_
  exact Fin.ret rfl ⟨(congrArg Value.bool (by simp only [sameOwn, ite_tt, ite_ff, gt_iff_lt, ge_iff_le, not_dlt, not_dle, bne_not, deq, decide_not, ne_eq, Bool.not_and, Bool.not_or, Bool.not_not, Bool.and_true, Bool.true_and, Bool.or_false, Bool.false_or, Int.toNat_natCast] <;> first | rfl | ac_rfl)), ⟨⟩⟩
theorem c_impl_isPrefix (a b : List (List UInt8)) : Sound ty Tryz.prog 161 [.a (.sl (.sl .u8) a), .a (.sl (.sl .u8) b)] [.a (.lit (.bool (preL a b)))] := by
  refine Sound.of X Tryz.call161 Tryz.func161 rfl rfl (by decide) Tryz.ntmps161 (by simp) ?_
  intro zb
  refine W.seq ?_
  refine W.reg X [] [] [0, 1] [] rfl ⟨⟩ ?_
  refine W.seq ?_
  refine W.reg X [] [(16, ⟨false, [.a (.lit (.bool (a == ((b.take (a.length : Int).toNat).drop (0 : Int).toNat))))]⟩)] [4] [] rfl (by (repeat' (first | with_reducible exact AllP.nil | with_reducible refine AllP.mk ?_ ?_ | with_reducible apply And.intro)) <;> skip; (iterate 1 (all_goals try (first | exact fun _ => (c_impl_EqualLists a ((b.take (a.length : Int).toNat).drop (0 : Int).toNat))))); all_goals (first | ((intro h1; first | (intro h2; first | (intro h3; refine And.intro ?_ ?_) | refine And.intro ?_ ?_) | refine And.intro ?_ ?_) <;> first | omega | ((try simp only [nb, inr_t, inr_f] at *); (try simp (disch := omega) only [i64w]); omega)))) ?_
  refine W.ret ?_
  exact Fin.ret rfl ⟨(congrArg Value.bool (by simp only [preL, List.drop_zero, Int.toNat_zero, ite_tt, ite_ff, gt_iff_lt, ge_iff_le, not_dlt, not_dle, bne_not, deq, decide_not, ne_eq, Bool.not_and, Bool.not_or, Bool.not_not, Bool.and_true, Bool.true_and, Bool.or_false, Bool.false_or, Int.toNat_natCast] <;> first | rfl | ac_rfl)), ⟨⟩⟩
theorem c_impl_IsValidDevice (d : Dev) : Sound ty Tryz.prog 139 [.agg (dec_Dev d)] [.a (.lit (.bool (okDev d)))] := by
  refine Sound.of X Tryz.call139 Tryz.func139 rfl rfl (by decide) Tryz.ntmps139 (by simp) ?_
  intro zb
  refine W.seq ?_
  refine W.reg X [] [] [1] [] rfl ⟨⟩ ?_
  refine W.seq ?_
  refine W.reg X [] [(5, ⟨false, [.a (.lit (.bool (okCli d.live)))]⟩), (9, ⟨false, [.a (.lit (.bool (okCli d.saved)))]⟩), (16, ⟨false, [.a (.lit (.bool (sameOwn d.live d.saved)))]⟩), (43, ⟨false, [.a (.lit (.bool (preL d.saved.inbox d.live.inbox)))]⟩)] [2] [] rfl (by (repeat' (first | with_reducible exact AllP.nil | with_reducible refine AllP.mk ?_ ?_ | with_reducible apply And.intro)) <;> skip; (iterate 4 (all_goals try (first | exact (c_impl_IsValidClient d.live) | exact fun _ => (c_impl_IsValidClient d.saved) | exact fun _ => (c_impl_sameOwner d.live d.saved) | exact fun _ => (c_impl_isPrefix d.saved.inbox d.live.inbox))))) ?_
  refine W.ret ?_
  exact Fin.ret rfl ⟨(congrArg Value.bool (by simp only [okDev, ite_tt, ite_ff, gt_iff_lt, ge_iff_le, not_dlt, not_dle, bne_not, deq, decide_not, ne_eq, Bool.not_and, Bool.not_or, Bool.not_not, Bool.and_true, Bool.true_and, Bool.or_false, Bool.false_or, Int.toNat_natCast] <;> first | rfl | ac_rfl)), ⟨⟩⟩
theorem c_spec_IsValidDevice (d : Dev) : Sound ty Tryz.prog 208 [.agg (dec_Dev d)] [.a (.lit (.bool (okDev d)))] := by
  refine Sound.of X Tryz.call208 Tryz.func208 rfl rfl (by decide) Tryz.ntmps208 (by simp) ?_
  intro zb
  refine W.seq ?_
  refine W.reg X [] [] [1] [] rfl ⟨⟩ ?_
  refine W.seq ?_
  refine W.reg X [] [] [1, 3] [] rfl ⟨⟩ ?_
  refine W.seq ?_
  refine W.reg X [] [] [3, 4] [] rfl ⟨⟩ ?_
  refine W.seq ?_
  refine W.seq ?_
  refine W.reg X [] [(10, ⟨false, [.a (.lit (.bool (okCli d.live)))]⟩), (14, ⟨false, [.a (.lit (.bool (okCli d.saved)))]⟩), (50, ⟨false, [.a (.lit (.bool (d.live.submitted == d.saved.submitted)))]⟩)] [3, 4, 52] [] rfl (by (repeat' (first | with_reducible exact AllP.nil | with_reducible refine AllP.mk ?_ ?_ | with_reducible apply And.intro)) <;> skip; (iterate 3 (all_goals try (first | exact (c_spec_IsValidClient d.live) | exact fun _ => (c_spec_IsValidClient d.saved) | exact fun _ => (c_spec_EqualLists d.live.submitted d.saved.submitted))))) ?_
  refine W.cond rfl (fun hb0 => ?_) (fun hb0 => ?_)
  · skip
    refine W.seq ?_
    refine W.reg X [] [] [2] [] rfl ⟨⟩ ?_
    refine W.ret ?_
    exact Fin.ret rfl ⟨by rw [show okDev d = false from by rw [okDev, or_no1 (R := okCli d.live && okCli d.saved && sameOwn d.live d.saved) hb0 (by simp only [sameOwn, ite_tt, ite_ff, gt_iff_lt, ge_iff_le, not_dlt, not_dle, bne_not, deq, decide_not, ne_eq, Bool.not_and, Bool.not_or, Bool.not_not, Bool.and_true, Bool.true_and, Bool.or_false, Bool.false_or, Int.toNat_natCast] <;> first | rfl | ac_rfl)]; rfl], ⟨⟩⟩
  · have hh : (okCli d.live && okCli d.saved && sameOwn d.live d.saved) = true := or_yes hb0 (by simp only [sameOwn, ite_tt, ite_ff, gt_iff_lt, ge_iff_le, not_dlt, not_dle, bne_not, deq, decide_not, ne_eq, Bool.not_and, Bool.not_or, Bool.not_not, Bool.and_true, Bool.true_and, Bool.or_false, Bool.false_or, Int.toNat_natCast] <;> first | rfl | ac_rfl)
    refine W.skip ?_
    refine W.seq ?_
    refine W.draw X [] [(83, ⟨false, [.a (.lit (.bool (d.saved.inbox == ((d.live.inbox.take (d.saved.inbox.length : Int).toNat).drop (0 : Int).toNat))))]⟩)] [2] [] 33 MO (by kernel_rfl) rfl (by (repeat' (first | with_reducible exact AllP.nil | with_reducible refine AllP.mk ?_ ?_ | with_reducible apply And.intro)) <;> skip; (iterate 1 (all_goals try (first | exact fun _ => (c_spec_EqualLists d.saved.inbox ((d.live.inbox.take (d.saved.inbox.length : Int).toNat).drop (0 : Int).toNat))))); all_goals (first | ((intro h1; first | (intro h2; first | (intro h3; refine And.intro ?_ ?_) | refine And.intro ?_ ?_) | refine And.intro ?_ ?_) <;> first | omega | ((try simp only [nb, inr_t, inr_f] at *); (try simp (disch := omega) only [i64w]); omega)))) ?_
    refine W.ret ?_
    exact Fin.ret rfl ⟨(congrArg Value.bool (by simp only [okDev, hh, preL, List.drop_zero, Int.toNat_zero, ite_tt, ite_ff, gt_iff_lt, ge_iff_le, not_dlt, not_dle, bne_not, deq, decide_not, ne_eq, Bool.not_and, Bool.not_or, Bool.not_not, Bool.and_true, Bool.true_and, Bool.or_false, Bool.false_or, Int.toNat_natCast] <;> first | rfl | ac_rfl)), ⟨⟩⟩
end Go.Proofs.YtlocnjfgeifmnaaGreat.G
namespace Go.Proofs.YtlocnjfgeifmnaaGreat.G
set_option linter.all false
open Go.RowKit L D
set_option maxRecDepth 100000
theorem c_impl_IsValidWorld (x : Wld) : Sound ty Tryz.prog 66 [.agg (dec_Wld x)] [.a (.lit (.bool (okW x)))] := by
  refine Sound.of X Tryz.call66 Tryz.func66 rfl rfl (by decide) Tryz.ntmps66 (by simp) ?_
  intro zb
  refine W.boundA 0 1 rfl rfl (fun hl1 => ?_)
  refine W.boundA 0 2 rfl rfl (fun hl2 => ?_)
  refine W.seq ?_
  refine W.reg X [] [] [1] [] rfl ⟨⟩ ?_
  refine W.seq ?_
  refine W.seq ?_
  refine W.draw X [] [(10, ⟨false, [.a (.lit (.bool (inr x.rows 1 64)))]⟩), (16, ⟨false, [.a (.lit (.bool (srvCnt (x.servers.length : Int))))]⟩), (23, ⟨false, [.a (.lit (.bool (inr (x.devices.length : Int) 2 8)))]⟩), (36, ⟨false, [.a (.lit (.bool (okArc x.archive)))]⟩), (50, ⟨false, [.a (.lit (.int .i64 (lastR x.archive)))]⟩), (58, ⟨false, [.a (.lit (.bool (okKey x.master)))]⟩), (64, ⟨false, [.a (.lit (.bool (inr x.round 0 100000)))]⟩)] [1, 71] [] 64 MO (by kernel_rfl) rfl (by (repeat' (first | with_reducible exact AllP.nil | with_reducible refine AllP.mk ?_ ?_ | with_reducible apply And.intro)) <;> skip; (iterate 7 (all_goals try (first | exact (c_impl_InRange x.rows 1 64) | exact fun _ => (c_impl_isServerCount (x.servers.length : Int)) | exact fun _ => (c_impl_InRange (x.devices.length : Int) 2 8) | exact fun _ => (c_impl_IsValidArchive x.archive) | exact fun _ => (c_impl_LastRound x.archive) | exact fun _ => (c_impl_IsValidKey x.master) | exact fun _ => (c_impl_InRange x.round 0 100000)))); all_goals (first | (refine fun _ => ?_; dsimp only [hyps, imps]; omega))) ?_
  refine W.cond rfl (fun hb0 => ?_) (fun hb0 => ?_)
  · skip
    refine W.seq ?_
    refine W.reg X [] [] [2] [] rfl ⟨⟩ ?_
    refine W.ret ?_
    exact Fin.ret rfl ⟨by rw [show okW x = false from by rw [okW, or_no1 (R := hdW x) hb0 (by simp only [hdW, ite_tt, ite_ff, gt_iff_lt, ge_iff_le, not_dlt, not_dle, bne_not, deq, decide_not, ne_eq, Bool.not_and, Bool.not_or, Bool.not_not, Bool.and_true, Bool.true_and, Bool.or_false, Bool.false_or, Int.toNat_natCast] <;> first | rfl | ac_rfl)]; rfl], ⟨⟩⟩
  · have hh : hdW x = true := or_yes hb0 (by simp only [hdW, ite_tt, ite_ff, gt_iff_lt, ge_iff_le, not_dlt, not_dle, bne_not, deq, decide_not, ne_eq, Bool.not_and, Bool.not_or, Bool.not_not, Bool.and_true, Bool.true_and, Bool.or_false, Bool.false_or, Int.toNat_natCast] <;> first | rfl | ac_rfl)
    obtain ⟨hev, hd8, _⟩ := hdW_dev hh
    refine W.skip ?_
    refine W.seq ?_
    refine W.seq ?_
    refine W.reg X [] [] [1, 73, 74, 75] [] rfl ⟨⟩ ?_
    refine W.block ?_
    refine W.loopO (fun k => k ≤ x.servers.length ∧ (List.range k).all (okS x) = true) (fun k : Nat => [(75, .one (.a (.lit (.int .i64 k))))]) (fun k => []) (fun k => x.servers.length - k) 0 (fun k => rfl) ⟨Nat.zero_le _, rfl⟩ rfl ?_
    rintro k ⟨hk, hall⟩
    refine W.seq ?_
    refine W.reg X [] [] [1, 73, 74, 75, 76] [] rfl ⟨⟩ ?_
    refine W.seq ?_
    refine W.cond rfl (fun hb1 => ?_) (fun hb1 => ?_)
    · try simp only [nb, inr_t, inr_f, isEmpty_t] at hb1
      refine W.skip ?_
      refine W.seq ?_
      refine W.block ?_
      refine W.seq ?_
      refine W.reg X [] [] [1, 3, 4, 73, 74, 75] [] rfl (by (repeat' (first | exact True.intro | apply And.intro)) <;> first | (intros; omega)) ?_
      refine W.seq ?_
      refine W.reg X [] [(81, ⟨false, [.a (.lit (.bool (okSrv (x.servers.getD k (dfl .Srv)))))]⟩)] [1, 73, 74, 75, 108] [] rfl (by (repeat' (first | with_reducible exact AllP.nil | with_reducible refine AllP.mk ?_ ?_ | with_reducible apply And.intro)) <;> skip; (iterate 1 (all_goals try (first | exact (c_impl_IsValidServer (x.servers.getD k (dfl .Srv))))))) ?_
      refine W.cond rfl (fun hb2 => ?_) (fun hb2 => ?_)
      · have hk2 : okS x k = false := or_no1 hb2 (by simp only [okS, ite_tt, ite_ff, gt_iff_lt, ge_iff_le, not_dlt, not_dle, bne_not, deq, decide_not, ne_eq, Bool.not_and, Bool.not_or, Bool.not_not, Bool.and_true, Bool.true_and, Bool.or_false, Bool.false_or, Int.toNat_natCast] <;> first | rfl | ac_rfl)
        refine W.seq ?_
        refine W.reg X [] [] [2] [] rfl ⟨⟩ ?_
        refine W.ret ?_
        exact Fin.ret rfl ⟨by rw [show okW x = false from by rw [okW, range_no hb1 hk2]; simp], ⟨⟩⟩
      · have hk2 : okS x k = true := or_yes hb2 (by simp only [okS, ite_tt, ite_ff, gt_iff_lt, ge_iff_le, not_dlt, not_dle, bne_not, deq, decide_not, ne_eq, Bool.not_and, Bool.not_or, Bool.not_not, Bool.and_true, Bool.true_and, Bool.or_false, Bool.false_or, Int.toNat_natCast] <;> first | rfl | ac_rfl)
        refine W.skip ?_
        refine W.reg X [] [] [1, 73, 74, 75] [] rfl ⟨⟩ ?_
        refine ⟨k + 1, ⟨by omega, range_all hall hk2⟩, by omega, ?_⟩
        rw [wadd _ k rfl (by omega)]
        try rfl
    · try simp only [nb, inr_t, inr_f, isEmpty_t] at hb1
      have hall2 : (List.range x.servers.length).all (okS x) = true := by rw [show x.servers.length = k by omega]; exact hall
      refine W.exit ?_
      refine W.seq ?_
      refine W.seq ?_
      refine W.reg X [] [] [1, 111, 112, 113] [] rfl ⟨⟩ ?_
      refine W.block ?_
      refine W.loopO (fun k1 => k1 ≤ x.devices.length ∧ (List.range k1).all (okD x) = true) (fun k1 : Nat => [(113, .one (.a (.lit (.int .i64 k1))))]) (fun k1 => []) (fun k1 => x.devices.length - k1) 0 (fun k1 => rfl) ⟨Nat.zero_le _, rfl⟩ rfl ?_
      rintro k1 ⟨hk1, hall1⟩
      refine W.seq ?_
      refine W.reg X [] [] [1, 111, 112, 113, 114] [] rfl ⟨⟩ ?_
      refine W.seq ?_
      refine W.cond rfl (fun hb3 => ?_) (fun hb3 => ?_)
      · try simp only [nb, inr_t, inr_f, isEmpty_t] at hb3
        have hx := xorN k1 (by omega)
        have hlt := xor_lt k1 x.devices.length hb3 hev
        refine W.skip ?_
        refine W.seq ?_
        refine W.block ?_
        refine W.seq ?_
        refine W.reg X [] [] [1, 5, 6, 111, 112, 113] [] rfl (by (repeat' (first | exact True.intro | apply And.intro)) <;> first | (intros; omega)) ?_
        refine W.seq ?_
        refine W.reg X [] [] [1, 5, 6, 7, 111, 112, 113] [] rfl ⟨⟩ ?_
        refine W.seq ?_
        refine W.draw X [] [(121, ⟨false, [.a (.lit (.bool (okDev (x.devices.getD k1 (dfl .Dev)))))]⟩)] [1, 111, 112, 113, 155] [] 36 MO (by kernel_rfl) rfl (by (repeat' (first | with_reducible exact AllP.nil | with_reducible refine AllP.mk ?_ ?_ | with_reducible apply And.intro)) <;> skip; (iterate 1 (all_goals try (first | exact (c_impl_IsValidDevice (x.devices.getD k1 (dfl .Dev)))))); all_goals (first | ((intro h1; first | (intro h2; first | (intro h3; refine And.intro ?_ ?_) | refine And.intro ?_ ?_) | refine And.intro ?_ ?_) <;> first | omega | ((try simp only [nb, inr_t, inr_f] at *); (try simp (disch := omega) only [i64w]); omega)))) ?_
        refine W.cond rfl (fun hb4 => ?_) (fun hb4 => ?_)
        · have hk3 : okD x k1 = false := or_no1 hb4 (by simp only [okD, hx, ite_tt, ite_ff, gt_iff_lt, ge_iff_le, not_dlt, not_dle, bne_not, deq, decide_not, ne_eq, Bool.not_and, Bool.not_or, Bool.not_not, Bool.and_true, Bool.true_and, Bool.or_false, Bool.false_or, Int.toNat_natCast] <;> first | rfl | ac_rfl)
          refine W.seq ?_
          refine W.reg X [] [] [2] [] rfl ⟨⟩ ?_
          refine W.ret ?_
          exact Fin.ret rfl ⟨by rw [show okW x = false from by rw [okW, range_no hb3 hk3]; simp], ⟨⟩⟩
        · have hk3 : okD x k1 = true := or_yes hb4 (by simp only [okD, hx, ite_tt, ite_ff, gt_iff_lt, ge_iff_le, not_dlt, not_dle, bne_not, deq, decide_not, ne_eq, Bool.not_and, Bool.not_or, Bool.not_not, Bool.and_true, Bool.true_and, Bool.or_false, Bool.false_or, Int.toNat_natCast] <;> first | rfl | ac_rfl)
          refine W.skip ?_
          refine W.reg X [] [] [1, 111, 112, 113] [] rfl ⟨⟩ ?_
          refine ⟨k1 + 1, ⟨by omega, range_all hall1 hk3⟩, by omega, ?_⟩
          rw [wadd _ k1 rfl (by omega)]
          try rfl
      · try simp only [nb, inr_t, inr_f, isEmpty_t] at hb3
        have hall3 : (List.range x.devices.length).all (okD x) = true := by rw [show x.devices.length = k1 by omega]; exact hall1
        refine W.exit ?_
        refine W.seq ?_
        refine W.reg X [] [] [2] [] rfl ⟨⟩ ?_
        refine W.ret ?_
        exact Fin.ret rfl ⟨by rw [okW, hh, hall2, hall3]; rfl, ⟨⟩⟩
theorem c_spec_l32Servers (x : Wld) : Sound ty Tryz.prog 119 [.agg (dec_Wld x)] [.a (.lit (.bool (svW x)))] := by
  refine Sound.of X Tryz.call119 Tryz.func119 rfl rfl (by decide) Tryz.ntmps119 (by simp) ?_
  intro zb
  refine W.boundA 0 1 rfl rfl (fun hl1 => ?_)
  refine W.boundA 0 2 rfl rfl (fun hl2 => ?_)
  refine W.seq ?_
  refine W.reg X [] [] [1] [] rfl ⟨⟩ ?_
  refine W.seq ?_
  refine W.seq ?_
  refine W.reg X [] [] [1, 3] [] rfl ⟨⟩ ?_
  refine W.block ?_
  refine W.loopO (fun k => k ≤ x.servers.length ∧ (List.range k).all (okS x) = true) (fun k : Nat => [(3, .one (.a (.lit (.int .i64 k))))]) (fun k => []) (fun k => x.servers.length - k) 0 (fun k => rfl) ⟨Nat.zero_le _, rfl⟩ rfl ?_
  rintro k ⟨hk, hall⟩
  refine W.seq ?_
  refine W.seq ?_
  refine W.reg X [] [] [1, 3, 9] [] rfl ⟨⟩ ?_
  refine W.cond rfl (fun hb0 => ?_) (fun hb0 => ?_)
  · try simp only [nb, inr_t, inr_f, isEmpty_t] at hb0
    refine W.skip ?_
    refine W.seq ?_
    refine W.block ?_
    refine W.seq ?_
    refine W.reg X [] [] [1, 3, 4] [] rfl (by (repeat' (first | exact True.intro | apply And.intro)) <;> first | (intros; omega)) ?_
    refine W.seq ?_
    refine W.reg X [] [(18, ⟨false, [.a (.lit (.bool (okSrv (x.servers.getD k (dfl .Srv)))))]⟩)] [1, 3, 45] [] rfl (by (repeat' (first | with_reducible exact AllP.nil | with_reducible refine AllP.mk ?_ ?_ | with_reducible apply And.intro)) <;> skip; (iterate 1 (all_goals try (first | exact (c_spec_IsValidServer (x.servers.getD k (dfl .Srv))))))) ?_
    refine W.cond rfl (fun hb1 => ?_) (fun hb1 => ?_)
    · have hk2 : okS x k = false := or_no1 hb1 (by simp only [okS, ite_tt, ite_ff, gt_iff_lt, ge_iff_le, not_dlt, not_dle, bne_not, deq, decide_not, ne_eq, Bool.not_and, Bool.not_or, Bool.not_not, Bool.and_true, Bool.true_and, Bool.or_false, Bool.false_or, Int.toNat_natCast] <;> first | rfl | ac_rfl)
      refine W.seq ?_
      refine W.reg X [] [] [2] [] rfl ⟨⟩ ?_
      refine W.ret ?_
      exact Fin.ret rfl ⟨by rw [show svW x = false from by rw [svW, range_no hb0 hk2]; simp], ⟨⟩⟩
    · have hk2 : okS x k = true := or_yes hb1 (by simp only [okS, ite_tt, ite_ff, gt_iff_lt, ge_iff_le, not_dlt, not_dle, bne_not, deq, decide_not, ne_eq, Bool.not_and, Bool.not_or, Bool.not_not, Bool.and_true, Bool.true_and, Bool.or_false, Bool.false_or, Int.toNat_natCast] <;> first | rfl | ac_rfl)
      refine W.skip ?_
      refine W.reg X [] [] [1, 3] [] rfl ⟨⟩ ?_
      refine ⟨k + 1, ⟨by omega, range_all hall hk2⟩, by omega, ?_⟩
      rw [wadd _ k rfl (by omega)]
      try rfl
  · try simp only [nb, inr_t, inr_f, isEmpty_t] at hb0
    have hall2 : (List.range x.servers.length).all (okS x) = true := by rw [show x.servers.length = k by omega]; exact hall
    refine W.exit ?_
    refine W.seq ?_
    refine W.reg X [] [(49, ⟨false, [.a (.lit (.bool _))]⟩)] [2] [] rfl (by (repeat' (first | with_reducible exact AllP.nil | with_reducible refine AllP.mk ?_ ?_ | with_reducible apply And.intro)) <;> skip; (iterate 1 (all_goals try (first | exact (c_spec_l7Count _))))) ?_
    refine W.ret ?_
    exact Fin.ret rfl ⟨by rw [svW, hall2]; rfl, ⟨⟩⟩
theorem c_spec_l32Devices (x : Wld) : Sound ty Tryz.prog 120 [.agg (dec_Wld x)] [.a (.lit (.bool (dvW x)))] := by
  refine Sound.of X Tryz.call120 Tryz.func120 rfl rfl (by decide) Tryz.ntmps120 (by simp) ?_
  intro zb
  refine W.boundA 0 1 rfl rfl (fun hl1 => ?_)
  refine W.boundA 0 2 rfl rfl (fun hl2 => ?_)
  refine W.seq ?_
  refine W.reg X [] [] [1] [] rfl ⟨⟩ ?_
  refine W.seq ?_
  refine W.reg X [] [] [1, 3] [] rfl ⟨⟩ ?_
  refine W.seq ?_
  refine W.seq ?_
  refine W.reg X [] [(14, ⟨false, [.a (.lit (.bool (inr (x.devices.length : Int) 2 8)))]⟩)] [1, 3, 16] [] rfl (by (repeat' (first | with_reducible exact AllP.nil | with_reducible refine AllP.mk ?_ ?_ | with_reducible apply And.intro)) <;> skip; (iterate 1 (all_goals try (first | exact fun _ => (c_spec_l1In (x.devices.length : Int) 2 8)))); all_goals (first | (intros; omega))) ?_
  refine W.cond rfl (fun hb0 => ?_) (fun hb0 => ?_)
  · skip
    refine W.seq ?_
    refine W.reg X [] [] [2] [] rfl ⟨⟩ ?_
    refine W.ret ?_
    exact Fin.ret rfl ⟨by rw [show dvW x = false from by rw [dvW, or_no1 (R := ((x.devices.length : Int).tmod 2 == 0) && inr x.devices.length 2 8) hb0 (by simp only [ite_tt, ite_ff, gt_iff_lt, ge_iff_le, not_dlt, not_dle, bne_not, deq, decide_not, ne_eq, Bool.not_and, Bool.not_or, Bool.not_not, Bool.and_true, Bool.true_and, Bool.or_false, Bool.false_or, Int.toNat_natCast] <;> first | rfl | ac_rfl)]; rfl], ⟨⟩⟩
  · have hh : (((x.devices.length : Int).tmod 2 == 0) && inr x.devices.length 2 8) = true := or_yes hb0 (by simp only [ite_tt, ite_ff, gt_iff_lt, ge_iff_le, not_dlt, not_dle, bne_not, deq, decide_not, ne_eq, Bool.not_and, Bool.not_or, Bool.not_not, Bool.and_true, Bool.true_and, Bool.or_false, Bool.false_or, Int.toNat_natCast] <;> first | rfl | ac_rfl)
    have hev : x.devices.length % 2 = 0 := by simp only [Bool.and_eq_true, beq_iff_eq] at hh; have := hh.1; rw [tmod_pos (by omega)] at this; omega
    have hd8 : x.devices.length ≤ 8 := by simp only [Bool.and_eq_true, inr_t] at hh; omega
    refine W.skip ?_
    refine W.seq ?_
    refine W.seq ?_
    refine W.reg X [] [] [1, 3, 4] [] rfl ⟨⟩ ?_
    refine W.block ?_
    refine W.loopO (fun k => k ≤ x.devices.length ∧ (List.range k).all (okD x) = true) (fun k : Nat => [(4, .one (.a (.lit (.int .i64 k))))]) (fun k => []) (fun k => x.devices.length - k) 0 (fun k => rfl) ⟨Nat.zero_le _, rfl⟩ rfl ?_
    rintro k ⟨hk, hall⟩
    refine W.seq ?_
    refine W.seq ?_
    refine W.reg X [] [] [1, 3, 4, 19] [] rfl ⟨⟩ ?_
    refine W.cond rfl (fun hb1 => ?_) (fun hb1 => ?_)
    · try simp only [nb, inr_t, inr_f, isEmpty_t] at hb1
      have hx := xorN k (by omega)
      have hlt := xor_lt k x.devices.length hb1 hev
      refine W.skip ?_
      refine W.seq ?_
      refine W.block ?_
      refine W.seq ?_
      refine W.reg X [] [] [1, 3, 4, 5] [] rfl (by (repeat' (first | exact True.intro | apply And.intro)) <;> first | (intros; omega)) ?_
      refine W.seq ?_
      refine W.draw X [] [(28, ⟨false, [.a (.lit (.bool (okDev (x.devices.getD k (dfl .Dev)))))]⟩)] [1, 3, 4, 66] [] 40 MO (by kernel_rfl) rfl (by (repeat' (first | with_reducible exact AllP.nil | with_reducible refine AllP.mk ?_ ?_ | with_reducible apply And.intro)) <;> skip; (iterate 1 (all_goals try (first | exact (c_spec_IsValidDevice (x.devices.getD k (dfl .Dev)))))); all_goals (first | ((intro h1; first | (intro h2; first | (intro h3; refine And.intro ?_ ?_) | refine And.intro ?_ ?_) | refine And.intro ?_ ?_) <;> first | omega | ((try simp only [nb, inr_t, inr_f] at *); (try simp (disch := omega) only [i64w]); omega)))) ?_
      refine W.cond rfl (fun hb2 => ?_) (fun hb2 => ?_)
      · have hk3 : okD x k = false := or_no1 hb2 (by simp only [okD, hx, ite_tt, ite_ff, gt_iff_lt, ge_iff_le, not_dlt, not_dle, bne_not, deq, decide_not, ne_eq, Bool.not_and, Bool.not_or, Bool.not_not, Bool.and_true, Bool.true_and, Bool.or_false, Bool.false_or, Int.toNat_natCast] <;> first | rfl | ac_rfl)
        refine W.seq ?_
        refine W.reg X [] [] [2] [] rfl ⟨⟩ ?_
        refine W.ret ?_
        exact Fin.ret rfl ⟨by rw [show dvW x = false from by rw [dvW, range_no hb1 hk3]; simp], ⟨⟩⟩
      · have hk3 : okD x k = true := or_yes hb2 (by simp only [okD, hx, ite_tt, ite_ff, gt_iff_lt, ge_iff_le, not_dlt, not_dle, bne_not, deq, decide_not, ne_eq, Bool.not_and, Bool.not_or, Bool.not_not, Bool.and_true, Bool.true_and, Bool.or_false, Bool.false_or, Int.toNat_natCast] <;> first | rfl | ac_rfl)
        refine W.skip ?_
        refine W.reg X [] [] [1, 3, 4] [] rfl ⟨⟩ ?_
        refine ⟨k + 1, ⟨by omega, range_all hall hk3⟩, by omega, ?_⟩
        rw [wadd _ k rfl (by omega)]
        try rfl
    · try simp only [nb, inr_t, inr_f, isEmpty_t] at hb1
      have hall3 : (List.range x.devices.length).all (okD x) = true := by rw [show x.devices.length = k by omega]; exact hall
      refine W.exit ?_
      refine W.seq ?_
      refine W.reg X [] [] [2] [] rfl ⟨⟩ ?_
      refine W.ret ?_
      exact Fin.ret rfl ⟨by rw [dvW, hh, hall3]; rfl, ⟨⟩⟩
theorem c_spec_IsValidWorld (x : Wld) : Sound ty Tryz.prog 60 [.agg (dec_Wld x)] [.a (.lit (.bool (okW x)))] := by
  refine Sound.of X Tryz.call60 Tryz.func60 rfl rfl (by decide) Tryz.ntmps60 (by simp) ?_
  intro zb
  refine W.seq ?_
  refine W.reg X [] [] [1] [] rfl ⟨⟩ ?_
  refine W.seq ?_
  refine W.draw X [] [(5, ⟨false, [.a (.lit (.bool (inr x.rows 1 64)))]⟩), (9, ⟨false, [.a (.lit (.bool (inr x.round 0 100000)))]⟩), (13, ⟨false, [.a (.lit (.bool (svW x)))]⟩), (17, ⟨false, [.a (.lit (.bool (dvW x)))]⟩), (22, ⟨false, [.a (.lit (.bool (okArc x.archive)))]⟩), (35, ⟨false, [.a (.lit (.int .i64 (lastR x.archive)))]⟩), (43, ⟨false, [.a (.lit (.bool (okKey x.master)))]⟩)] [2] [] 48 MO (by kernel_rfl) rfl (by (repeat' (first | with_reducible exact AllP.nil | with_reducible refine AllP.mk ?_ ?_ | with_reducible apply And.intro)) <;> skip; (iterate 7 (all_goals try (first | exact (c_spec_l1In x.rows 1 64) | exact fun _ => (c_spec_l1In x.round 0 100000) | exact fun _ => (c_spec_l32Servers x) | exact fun _ => (c_spec_l32Devices x) | exact fun _ => (c_spec_IsValidArchive x.archive) | exact fun _ => (c_spec_LastRound x.archive) | exact fun _ => (c_spec_IsValidKey x.master))))) ?_
  refine W.ret ?_
  exact Fin.ret rfl ⟨(congrArg Value.bool (by simp only [okW, hdW, svW, dvW, ite_tt, ite_ff, gt_iff_lt, ge_iff_le, not_dlt, not_dle, bne_not, deq, decide_not, ne_eq, Bool.not_and, Bool.not_or, Bool.not_not, Bool.and_true, Bool.true_and, Bool.or_false, Bool.false_or, Int.toNat_natCast] <;> first | rfl | ac_rfl)), ⟨⟩⟩
theorem c_impl_SealCell (key c : Int) (p : Plain) : Sound ty Tryz.prog 225 [.a (.lit (.int .i64 key)), .a (.lit (.int .i64 c)), .agg (dec_Plain p)] [.a (.sl .u8 (sealC key c p)), .a (.lit (.bool (sealOK key c p)))] := by
  refine Sound.of X Tryz.call225 Tryz.func225 rfl rfl (by decide) Tryz.ntmps225 (by simp) ?_
  intro zb
  refine W.seq ?_
  refine W.reg X [] [] [0, 1, 5] [] rfl ⟨⟩ ?_
  refine W.seq ?_
  refine W.seq ?_
  refine W.reg X [] [(11, ⟨false, [.a (.lit (.bool (okKey key)))]⟩), (15, ⟨false, [.a (.lit (.bool (inr c 0 1000000000000)))]⟩), (20, ⟨false, [.a (.lit (.bool (okPlain p)))]⟩)] [0, 1, 5, 22] [] rfl (by (repeat' (first | with_reducible exact AllP.nil | with_reducible refine AllP.mk ?_ ?_ | with_reducible apply And.intro)) <;> skip; (iterate 3 (all_goals try (first | exact (c_impl_IsValidKey key) | exact fun _ => (c_impl_InRange c 0 1000000000000) | exact fun _ => (c_impl_IsValidPlain p))))) ?_
  refine W.cond rfl (fun hb0 => ?_) (fun hb0 => ?_)
  · have hk : sealOK key c p = false := or_no1 hb0 (by simp only [sealOK, ite_tt, ite_ff, gt_iff_lt, ge_iff_le, not_dlt, not_dle, bne_not, deq, decide_not, ne_eq, Bool.not_and, Bool.not_or, Bool.not_not, Bool.and_true, Bool.true_and, Bool.or_false, Bool.false_or, Int.toNat_natCast] <;> first | rfl | ac_rfl)
    refine W.seq ?_
    refine W.reg X [] [] [6, 7] [] rfl ⟨⟩ ?_
    refine W.ret ?_
    exact Fin.ret rfl ⟨by rw [sealC, if_neg (by rw [hk]; decide)], by rw [hk], ⟨⟩⟩
  · have hk : sealOK key c p = true := or_yes hb0 (by simp only [sealOK, ite_tt, ite_ff, gt_iff_lt, ge_iff_le, not_dlt, not_dle, bne_not, deq, decide_not, ne_eq, Bool.not_and, Bool.not_or, Bool.not_not, Bool.and_true, Bool.true_and, Bool.or_false, Bool.false_or, Int.toNat_natCast] <;> first | rfl | ac_rfl)
    have hp := sealOK_body hk
    have hst : (stream (kh key [61, c]) (18 : Int).toNat).length = 18 := stream_len _ _
    have hpl : (padded key c p).length ≤ 100 := by unfold padded; simp only [List.length_append, List.length_drop, List.length_cons, List.length_nil, stream_len]; omega
    have hf4 : (four (ccheck key c (encr (ckey key c) (padded key c p)))).length = 4 := rfl
    have hel : (encr (ckey key c) (padded key c p)).length ≤ 100 := by rw [encr_len]; exact hpl
    refine W.skip ?_
    refine W.seq ?_
    refine W.reg X [(33, 30)] [] [0, 1, 5, 8] [] rfl (by (repeat' (first | exact True.intro | apply And.intro)) <;> first | exact rfl | exact (u8w _).1 | exact (u8w _).2 | (simp only [byt, maxLen, lens]; omega)) ?_
    refine W.seq ?_
    refine W.draw X [(44, 30)] [(38, ⟨false, [.a (.lit (.int .i64 (kh key [61, c])))]⟩), (39, ⟨true, [.a (.sl .u8 (stream (kh key [61, c]) (18 : Int).toNat))]⟩)] [0, 1, 8] [] 10 MO (by kernel_rfl) rfl (by (repeat' (first | with_reducible exact AllP.nil | with_reducible refine AllP.mk ?_ ?_ | with_reducible apply And.intro)) <;> skip; (iterate 2 (all_goals try (first | exact (c_impl_KeyedHash key [61, c] (by first | assumption | omega | (simp; done) | (simp; omega))) | exact (c_impl_StreamBytes (kh key [61, c]) 18 (by first | assumption | omega | (simp; done) | (simp; omega)) (by first | assumption | omega | (simp; done) | (simp; omega)))))); all_goals (first | (intros; omega) | exact rfl | exact ⟨rfl, El_all _ (by decide)⟩ | (simp only [byt, maxLen, lens]; omega))) ?_
    refine W.seq ?_
    refine W.reg X [] [(47, ⟨false, [.a (.lit (.int .i64 (ckey key c)))]⟩), (49, ⟨true, [.a (.sl .u8 (encr (ckey key c) (padded key c p)))]⟩)] [0, 1, 9] [] rfl (by (repeat' (first | with_reducible exact AllP.nil | with_reducible refine AllP.mk ?_ ?_ | with_reducible apply And.intro)) <;> skip; (iterate 2 (all_goals try (first | exact (c_impl_cellKey key c) | exact (c_impl_Encrypt (ckey key c) (padded key c p) (by first | assumption | omega | (simp; done) | (simp; omega))))))) ?_
    refine W.seq ?_
    refine W.reg X [(55, 49)] [(54, ⟨true, [.a (.sl .u8 (four (ccheck key c (encr (ckey key c) (padded key c p)))))]⟩)] [6, 7] [] rfl (by (repeat' (first | with_reducible exact AllP.nil | with_reducible refine AllP.mk ?_ ?_ | with_reducible apply And.intro)) <;> skip; (iterate 1 (all_goals try (first | exact (c_impl_checkBytes key c (encr (ckey key c) (padded key c p)) (by first | assumption | omega | (simp; done) | (simp; omega)))))); all_goals (first | exact rfl | (simp only [byt, maxLen, lens]; omega))) ?_
    refine W.ret ?_
    exact Fin.ret rfl ⟨by rw [sealC, if_pos hk], by rw [hk], ⟨⟩⟩
theorem c_spec_SealCell (key c : Int) (p : Plain) : Sound ty Tryz.prog 213 [.a (.lit (.int .i64 key)), .a (.lit (.int .i64 c)), .agg (dec_Plain p)] [.a (.sl .u8 (sealC key c p)), .a (.lit (.bool (sealOK key c p)))] := by
  refine Sound.of X Tryz.call213 Tryz.func213 rfl rfl (by decide) Tryz.ntmps213 (by simp) ?_
  intro zb
  refine W.seq ?_
  refine W.reg X [] [] [0, 1, 5] [] rfl ⟨⟩ ?_
  refine W.seq ?_
  refine W.seq ?_
  refine W.reg X [] [(12, ⟨false, [.a (.lit (.bool (okKey key)))]⟩), (16, ⟨false, [.a (.lit (.bool (inr c 0 1000000000000)))]⟩), (21, ⟨false, [.a (.lit (.bool (okPlain p)))]⟩)] [0, 1, 5, 23] [] rfl (by (repeat' (first | with_reducible exact AllP.nil | with_reducible refine AllP.mk ?_ ?_ | with_reducible apply And.intro)) <;> skip; (iterate 3 (all_goals try (first | exact (c_spec_IsValidKey key) | exact fun _ => (c_spec_l1In c 0 1000000000000) | exact fun _ => (c_spec_IsValidPlain p))))) ?_
  refine W.cond rfl (fun hb0 => ?_) (fun hb0 => ?_)
  · have hk : sealOK key c p = false := or_no1 hb0 (by simp only [sealOK, ite_tt, ite_ff, gt_iff_lt, ge_iff_le, not_dlt, not_dle, bne_not, deq, decide_not, ne_eq, Bool.not_and, Bool.not_or, Bool.not_not, Bool.and_true, Bool.true_and, Bool.or_false, Bool.false_or, Int.toNat_natCast] <;> first | rfl | ac_rfl)
    refine W.seq ?_
    refine W.reg X [] [] [6, 7] [] rfl (by (repeat' (first | exact True.intro | apply And.intro)) <;> first | exact rfl) ?_
    refine W.ret ?_
    exact Fin.ret rfl ⟨by rw [sealC, if_neg (by rw [hk]; decide)], by rw [hk], ⟨⟩⟩
  · have hk : sealOK key c p = true := or_yes hb0 (by simp only [sealOK, ite_tt, ite_ff, gt_iff_lt, ge_iff_le, not_dlt, not_dle, bne_not, deq, decide_not, ne_eq, Bool.not_and, Bool.not_or, Bool.not_not, Bool.and_true, Bool.true_and, Bool.or_false, Bool.false_or, Int.toNat_natCast] <;> first | rfl | ac_rfl)
    have hp := sealOK_body hk
    have hst : (stream (kh key [61, c]) (18 : Int).toNat).length = 18 := stream_len _ _
    have hpl : (padded key c p).length ≤ 100 := by unfold padded; simp only [List.length_append, List.length_drop, List.length_cons, List.length_nil, stream_len]; omega
    have hf4 : (four (ccheck key c (encr (ckey key c) (padded key c p)))).length = 4 := rfl
    have hel : (encr (ckey key c) (padded key c p)).length ≤ 100 := by rw [encr_len]; exact hpl
    refine W.skip ?_
    refine W.seq ?_
    refine W.reg X [(35, 32)] [] [0, 1, 5, 8] [] rfl (by (repeat' (first | exact True.intro | apply And.intro)) <;> first | exact rfl | exact (u8w _).1 | exact (u8w _).2 | (simp only [byt, maxLen, lens]; omega)) ?_
    refine W.seq ?_
    refine W.draw X [(46, 32)] [(40, ⟨false, [.a (.lit (.int .i64 (kh key [61, c])))]⟩), (41, ⟨true, [.a (.sl .u8 (stream (kh key [61, c]) (18 : Int).toNat))]⟩)] [0, 1, 8] [] 10 MO (by kernel_rfl) rfl (by (repeat' (first | with_reducible exact AllP.nil | with_reducible refine AllP.mk ?_ ?_ | with_reducible apply And.intro)) <;> skip; (iterate 2 (all_goals try (first | exact (c_spec_KeyedHash key [61, c] (by first | assumption | omega | (simp; done) | (simp; omega))) | exact (c_spec_StreamBytes (kh key [61, c]) 18 (by first | assumption | omega | (simp; done) | (simp; omega)) (by first | assumption | omega | (simp; done) | (simp; omega)))))); all_goals (first | (intros; omega) | exact rfl | exact ⟨rfl, El_all _ (by decide)⟩ | (simp only [byt, maxLen, lens]; omega))) ?_
    refine W.seq ?_
    refine W.reg X [] [(49, ⟨false, [.a (.lit (.int .i64 (ckey key c)))]⟩), (51, ⟨true, [.a (.sl .u8 (encr (ckey key c) (padded key c p)))]⟩)] [0, 1, 9] [] rfl (by (repeat' (first | with_reducible exact AllP.nil | with_reducible refine AllP.mk ?_ ?_ | with_reducible apply And.intro)) <;> skip; (iterate 2 (all_goals try (first | exact (c_spec_l13Cipher key c) | exact (c_spec_Encrypt (ckey key c) (padded key c p) (by first | assumption | omega | (simp; done) | (simp; omega))))))) ?_
    refine W.seq ?_
    refine W.reg X [] [(55, ⟨false, [.a (.lit (.int .i64 (ccheck key c (encr (ckey key c) (padded key c p)))))]⟩)] [9, 10] [] rfl (by (repeat' (first | with_reducible exact AllP.nil | with_reducible refine AllP.mk ?_ ?_ | with_reducible apply And.intro)) <;> skip; (iterate 1 (all_goals try (first | exact (c_spec_CellCheck key c (encr (ckey key c) (padded key c p)) (by first | assumption | omega | (simp; done) | (simp; omega))))))) ?_
    refine W.seq ?_
    refine W.reg X [(69, 51)] [] [6, 7] [] rfl (by (repeat' (first | exact True.intro | apply And.intro)) <;> first | (intros; omega) | exact rfl | exact (u8w _).1 | exact (u8w _).2 | (simp only [byt, maxLen, lens]; omega)) ?_
    refine W.ret ?_
    exact Fin.ret rfl ⟨(congrArg (fun z => encr (ckey key c) (padded key c p) ++ z) (four_eq _)).trans (by rw [sealC, if_pos hk]), by rw [hk], ⟨⟩⟩
theorem c_impl_hasClient (x : Wld) (c : Int) : Sound ty Tryz.prog 98 [.agg (dec_Wld x), .a (.lit (.int .i64 c))] [.a (.lit (.bool (hasC x c)))] := by
  refine Sound.of X Tryz.call98 Tryz.func98 rfl rfl (by decide) Tryz.ntmps98 (by simp) ?_
  intro zb
  refine W.boundA 0 2 rfl rfl (fun hl2 => ?_)
  refine W.seq ?_
  refine W.reg X [] [] [1, 2] [] rfl ⟨⟩ ?_
  refine W.seq ?_
  refine W.reg X [] [(10, ⟨false, [.a (.lit (.bool _))]⟩)] [4] [] rfl (by (repeat' (first | with_reducible exact AllP.nil | with_reducible refine AllP.mk ?_ ?_ | with_reducible apply And.intro)) <;> skip; (iterate 1 (all_goals try (first | exact (c_impl_InRange _ _ _))))) ?_
  refine W.ret ?_
  exact Fin.ret rfl ⟨by rw [i64w (by omega)]; rfl, ⟨⟩⟩
theorem c_impl_hasPair (x : Wld) (c : Int) (hd : x.devices.length ≤ 1048576) : Sound ty Tryz.prog 160 [.agg (dec_Wld x), .a (.lit (.int .i64 c))] [.a (.lit (.bool (pairOK x c)))] := by
  refine Sound.of X Tryz.call160 Tryz.func160 rfl rfl (by decide) Tryz.ntmps160 (by simp) ?_
  intro zb
  refine W.seq ?_
  refine W.reg X [] [] [1, 2] [] rfl ⟨⟩ ?_
  refine W.seq ?_
  refine W.reg X [] [(7, ⟨false, [.a (.lit (.bool (hasC x c)))]⟩), (12, ⟨false, [.a (.lit (.bool (hasC x (IntKind.i64.wrap (BitVec.ofInt IntKind.i64.bits c ^^^ BitVec.ofInt IntKind.i64.bits 1).toNat))))]⟩)] [4] [] rfl (by (repeat' (first | with_reducible exact AllP.nil | with_reducible refine AllP.mk ?_ ?_ | with_reducible apply And.intro)) <;> skip; (iterate 2 (all_goals try (first | exact (c_impl_hasClient x c) | exact fun _ => (c_impl_hasClient x (IntKind.i64.wrap (BitVec.ofInt IntKind.i64.bits c ^^^ BitVec.ofInt IntKind.i64.bits 1).toNat)))))) ?_
  refine W.ret ?_
  exact Fin.ret rfl ⟨by rw [ite_ff, pair_impl hd], ⟨⟩⟩
theorem c_spec_l37Pair (x : Wld) (c : Int) (hd : x.devices.length ≤ 1048576) : Sound ty Tryz.prog 154 [.agg (dec_Wld x), .a (.lit (.int .i64 c))] [.a (.lit (.bool (pairOK x c)))] := by
  refine Sound.of X Tryz.call154 Tryz.func154 rfl rfl (by decide) Tryz.ntmps154 (by simp) ?_
  intro zb
  refine W.seq ?_
  refine W.reg X [] [] [1, 2] [] rfl ⟨⟩ ?_
  refine W.seq ?_
  refine W.reg X [] [(10, ⟨false, [.a (.lit (.bool (inr c 0 (IntKind.i64.wrap ((x.devices.length : Int) - 1)))))]⟩)] [4] [] rfl (by (repeat' (first | with_reducible exact AllP.nil | with_reducible refine AllP.mk ?_ ?_ | with_reducible apply And.intro)) <;> skip; (iterate 1 (all_goals try (first | exact (c_spec_l1In c 0 (IntKind.i64.wrap ((x.devices.length : Int) - 1))))))) ?_
  refine W.ret ?_
  exact Fin.ret rfl ⟨by rw [i64w (by omega), ite_ff, pair_spec hd], ⟨⟩⟩
theorem c_impl_direction (c : Cli) : Sound ty Tryz.prog 142 [.agg (dec_Cli c)] [.a (.lit (.int .i64 (dirn c)))] := by
  refine Sound.of X Tryz.call142 Tryz.func142 rfl rfl (by decide) Tryz.ntmps142 (by simp) ?_
  intro zb
  refine W.seq ?_
  refine W.reg X [] [] [1] [] rfl ⟨⟩ ?_
  refine W.seq ?_
  refine W.seq ?_
  refine W.reg X [] [] [7] [] rfl ⟨⟩ ?_
  refine W.cond rfl (fun hb0 => ?_) (fun hb0 => ?_)
  · try simp only [nb, inr_t, inr_f, isEmpty_t] at hb0
    refine W.seq ?_
    refine W.reg X [] [] [2] [] rfl ⟨⟩ ?_
    refine W.ret ?_
    exact Fin.ret rfl ⟨by rw [dirn, if_pos hb0], ⟨⟩⟩
  · try simp only [nb, inr_t, inr_f, isEmpty_t] at hb0
    refine W.skip ?_
    refine W.seq ?_
    refine W.reg X [] [] [2] [] rfl ⟨⟩ ?_
    refine W.ret ?_
    exact Fin.ret rfl ⟨by rw [dirn, if_neg (by omega)], ⟨⟩⟩
theorem c_impl_messageCell (c : Cli) (a : Int) (h0 : 0 ≤ a) (h1 : a < c.submitted.length) : Sound ty Tryz.prog 143 [.agg (dec_Cli c), .a (.lit (.int .i64 a))] [.a (.sl .u8 (mcell c a))] := by
  refine Sound.of X Tryz.call143 Tryz.func143 rfl rfl (by decide) Tryz.ntmps143 (by simp) ?_
  intro zb
  refine W.seq ?_
  refine W.reg X [] [] [1, 2] [] rfl ⟨⟩ ?_
  refine W.seq ?_
  refine W.draw X [] [(11, ⟨false, [.a (.lit (.int .i64 (dirn c)))]⟩), (12, ⟨false, [.a (.lit (.int .i64 (dkey c.key (dirn c))))]⟩), (20, ⟨true, [.a (.sl .u8 (sealC (dkey c.key (dirn c)) a (⟨1, (c.submitted.getD (a).toNat (dfl (.sl .u8)))⟩ : Plain))), .a (.lit (.bool (sealOK (dkey c.key (dirn c)) a (⟨1, (c.submitted.getD (a).toNat (dfl (.sl .u8)))⟩ : Plain))))]⟩)] [5] [] 18 MO (by kernel_rfl) rfl (by (repeat' (first | with_reducible exact AllP.nil | with_reducible refine AllP.mk ?_ ?_ | with_reducible apply And.intro)) <;> skip; (iterate 3 (all_goals try (first | exact (c_impl_direction c) | exact (c_impl_DirectionKey c.key (dirn c)) | exact (c_impl_SealCell (dkey c.key (dirn c)) a (⟨1, (c.submitted.getD (a).toNat (dfl (.sl .u8)))⟩ : Plain))))); all_goals (first | (intros; omega))) ?_
  refine W.seq ?_
  refine W.reg X [] [] [4] [] rfl ⟨⟩ ?_
  refine W.ret ?_
  exact Fin.ret rfl ⟨rfl, ⟨⟩⟩
theorem c_impl_ReadRow (d : DB) (i : Int) (hs0 : lsz List.length d.rows ≤ 1048576) : Sound ty Tryz.prog 162 [.agg (dec_DB d), .a (.lit (.int .i64 i))] [.a (.sl .u8 (rowAt d i)), .a (.lit (.bool (rowOK d i)))] := by
  refine Sound.of X Tryz.call162 Tryz.func162 rfl rfl (by decide) Tryz.ntmps162 (by simp) ?_
  intro zb
  have hll : d.rows.length ≤ 1048576 := lsz_len hs0
  refine W.seq ?_
  refine W.reg X [] [] [1, 2] [] rfl ⟨⟩ ?_
  refine W.seq ?_
  refine W.seq ?_
  refine W.reg X [] [(11, ⟨false, [.a (.lit (.bool (inr i 0 (IntKind.i64.wrap ((d.rows.length : Int) - 1)))))]⟩)] [1, 2, 12] [] rfl (by (repeat' (first | with_reducible exact AllP.nil | with_reducible refine AllP.mk ?_ ?_ | with_reducible apply And.intro)) <;> skip; (iterate 1 (all_goals try (first | exact (c_impl_InRange i 0 (IntKind.i64.wrap ((d.rows.length : Int) - 1))))))) ?_
  refine W.cond rfl (fun hb0 => ?_) (fun hb0 => ?_)
  · rw [i64w (by omega)] at hb0
    have hk : rowOK d i = false := or_no1 hb0 rfl
    refine W.seq ?_
    refine W.reg X [] [] [4, 5] [] rfl ⟨⟩ ?_
    refine W.ret ?_
    exact Fin.ret rfl ⟨by rw [rowAt, if_neg (by rw [hk]; decide)], by rw [hk], ⟨⟩⟩
  · rw [i64w (by omega)] at hb0
    have hk : rowOK d i = true := or_yes hb0 rfl
    have hk2 := hk
    simp only [rowOK, inr_t] at hk2
    have hel := lsz_el hs0 i.toNat (by omega)
    refine W.skip ?_
    refine W.seq ?_
    refine W.reg X [] [(18, ⟨true, [.a (.sl .u8 _)]⟩)] [4, 5] [] rfl (by (repeat' (first | with_reducible exact AllP.nil | with_reducible refine AllP.mk ?_ ?_ | with_reducible apply And.intro)) <;> skip; (iterate 1 (all_goals try (first | exact (c_slices_Clone_byte_byte _ (by first | assumption | omega | (simp; done) | (simp; omega)))))); all_goals (first | (intros; omega))) ?_
    refine W.ret ?_
    exact Fin.ret rfl ⟨by rw [rowAt, if_pos hk], by rw [hk], ⟨⟩⟩
theorem c_spec_l29Direction (c : Cli) : Sound ty Tryz.prog 126 [.agg (dec_Cli c)] [.a (.lit (.int .i64 (dirn c)))] := by
  refine Sound.of X Tryz.call126 Tryz.func126 rfl rfl (by decide) Tryz.ntmps126 (by simp) ?_
  intro zb
  refine W.seq ?_
  refine W.reg X [] [] [1] [] rfl ⟨⟩ ?_
  refine W.seq ?_
  refine W.seq ?_
  refine W.reg X [] [] [7] [] rfl ⟨⟩ ?_
  refine W.cond rfl (fun hb0 => ?_) (fun hb0 => ?_)
  · try simp only [nb, inr_t, inr_f, isEmpty_t] at hb0
    refine W.seq ?_
    refine W.reg X [] [] [2] [] rfl ⟨⟩ ?_
    refine W.ret ?_
    exact Fin.ret rfl ⟨by rw [dirn, if_pos hb0], ⟨⟩⟩
  · try simp only [nb, inr_t, inr_f, isEmpty_t] at hb0
    refine W.skip ?_
    refine W.seq ?_
    refine W.reg X [] [] [2] [] rfl ⟨⟩ ?_
    refine W.ret ?_
    exact Fin.ret rfl ⟨by rw [dirn, if_neg (by omega)], ⟨⟩⟩
theorem c_spec_l29Cell (c : Cli) (h0 : 0 ≤ c.sent) (h1 : c.sent < c.submitted.length) : Sound ty Tryz.prog 127 [.agg (dec_Cli c)] [.a (.sl .u8 (mcell c c.sent))] := by
  refine Sound.of X Tryz.call127 Tryz.func127 rfl rfl (by decide) Tryz.ntmps127 (by simp) ?_
  intro zb
  refine W.seq ?_
  refine W.reg X [] [] [1] [] rfl ⟨⟩ ?_
  refine W.seq ?_
  refine W.draw X [] [(9, ⟨false, [.a (.lit (.int .i64 (dirn c)))]⟩), (10, ⟨false, [.a (.lit (.int .i64 (dkey c.key (dirn c))))]⟩), (20, ⟨true, [.a (.sl .u8 (sealC (dkey c.key (dirn c)) c.sent (⟨1, (c.submitted.getD (c.sent).toNat (dfl (.sl .u8)))⟩ : Plain))), .a (.lit (.bool (sealOK (dkey c.key (dirn c)) c.sent (⟨1, (c.submitted.getD (c.sent).toNat (dfl (.sl .u8)))⟩ : Plain))))]⟩)] [3] [] 20 MO (by kernel_rfl) rfl (by (repeat' (first | with_reducible exact AllP.nil | with_reducible refine AllP.mk ?_ ?_ | with_reducible apply And.intro)) <;> skip; (iterate 3 (all_goals try (first | exact (c_spec_l29Direction c) | exact (c_spec_DirectionKey c.key (dirn c)) | exact (c_spec_SealCell (dkey c.key (dirn c)) c.sent (⟨1, (c.submitted.getD (c.sent).toNat (dfl (.sl .u8)))⟩ : Plain))))); all_goals (first | (intros; omega))) ?_
  refine W.seq ?_
  refine W.reg X [] [] [2] [] rfl ⟨⟩ ?_
  refine W.ret ?_
  exact Fin.ret rfl ⟨rfl, ⟨⟩⟩
theorem c_spec_ReadRow (d : DB) (i : Int) (hs0 : lsz List.length d.rows ≤ 1048576) : Sound ty Tryz.prog 156 [.agg (dec_DB d), .a (.lit (.int .i64 i))] [.a (.sl .u8 (rowAt d i)), .a (.lit (.bool (rowOK d i)))] := by
  refine Sound.of X Tryz.call156 Tryz.func156 rfl rfl (by decide) Tryz.ntmps156 (by simp) ?_
  intro zb
  have hll : d.rows.length ≤ 1048576 := lsz_len hs0
  refine W.seq ?_
  refine W.reg X [] [] [1, 2] [] rfl ⟨⟩ ?_
  refine W.seq ?_
  refine W.seq ?_
  refine W.reg X [] [(11, ⟨false, [.a (.lit (.bool (inr i 0 (IntKind.i64.wrap ((d.rows.length : Int) - 1)))))]⟩)] [1, 2, 12] [] rfl (by (repeat' (first | with_reducible exact AllP.nil | with_reducible refine AllP.mk ?_ ?_ | with_reducible apply And.intro)) <;> skip; (iterate 1 (all_goals try (first | exact (c_spec_l1In i 0 (IntKind.i64.wrap ((d.rows.length : Int) - 1))))))) ?_
  refine W.cond rfl (fun hb0 => ?_) (fun hb0 => ?_)
  · rw [i64w (by omega)] at hb0
    have hk : rowOK d i = false := or_no1 hb0 rfl
    refine W.seq ?_
    refine W.reg X [] [] [4, 5] [] rfl (by (repeat' (first | exact True.intro | apply And.intro)) <;> first | exact rfl) ?_
    refine W.ret ?_
    exact Fin.ret rfl ⟨by rw [rowAt, if_neg (by rw [hk]; decide)], by rw [hk], ⟨⟩⟩
  · rw [i64w (by omega)] at hb0
    have hk : rowOK d i = true := or_yes hb0 rfl
    have hk2 := hk
    simp only [rowOK, inr_t] at hk2
    have hel := lsz_el hs0 i.toNat (by omega)
    refine W.skip ?_
    refine W.seq ?_
    refine W.reg X [(20, 14)] [] [4, 5] [] rfl (by (repeat' (first | exact True.intro | apply And.intro)) <;> first | (intros; omega) | exact rfl | (simp only [byt, maxLen, lens]; omega)) ?_
    refine W.ret ?_
    exact Fin.ret rfl ⟨by rw [rowAt, if_pos hk]; rfl, by rw [hk], ⟨⟩⟩
end Go.Proofs.YtlocnjfgeifmnaaGreat.G
namespace Go.Proofs.YtlocnjfgeifmnaaGreat.G
set_option linter.all false
open Go.RowKit L D
set_option maxRecDepth 100000
theorem c_impl_SentIsReceived (x : Wld) (i : Int) (hsz : size_Wld x ≤ 1048576) : Sound ty Tryz.prog 83 [.agg (dec_Wld x), .a (.lit (.int .i64 i))] [.a (.lit (.bool (sentRecv x i)))] := by
  refine Sound.of X Tryz.call83 Tryz.func83 rfl rfl (by decide) Tryz.ntmps83 (by simp) ?_
  intro zb
  have hd : x.devices.length ≤ 1048576 := dev_le hsz
  have hrl : x.archive.rounds.length ≤ 1048576 := rounds_le hsz
  refine W.seq ?_
  refine W.reg X [] [] [1, 2] [] rfl ⟨⟩ ?_
  refine W.seq ?_
  refine W.seq ?_
  refine W.reg X [] [(14, ⟨false, [.a (.lit (.bool (pairOK x i)))]⟩)] [1, 2, 15] [] rfl (by (repeat' (first | with_reducible exact AllP.nil | with_reducible refine AllP.mk ?_ ?_ | with_reducible apply And.intro)) <;> skip; (iterate 1 (all_goals try (first | exact (c_impl_hasPair x i (by first | assumption | omega | (simp; done) | (simp; omega))))))) ?_
  refine W.cond rfl (fun hb0 => ?_) (fun hb0 => ?_)
  · have hpk : pairOK x i = false := by simpa using hb0
    refine W.seq ?_
    refine W.reg X [] [] [4] [] rfl ⟨⟩ ?_
    refine W.ret ?_
    exact Fin.ret rfl ⟨by rw [sentRecv, if_neg (by rw [hpk]; decide)], ⟨⟩⟩
  · have hpk : pairOK x i = true := by simpa using hb0
    obtain ⟨hi0, hi1, hi2, hi3⟩ := pair_lt hpk
    have hx := xorN i.toNat (by omega)
    rw [← hi3] at hx
    have hx2 : (IntKind.i64.wrap (BitVec.ofInt IntKind.i64.bits i ^^^ BitVec.ofInt IntKind.i64.bits 1).toNat).toNat = i.toNat ^^^ 1 := by rw [hx]; rfl
    have hin := inbox_le hsz (k := (IntKind.i64.wrap (BitVec.ofInt IntKind.i64.bits i ^^^ BitVec.ofInt IntKind.i64.bits 1).toNat).toNat) (by rw [hx2]; exact hi2)
    have hsb := lsz_len (live_le (lsz_cli hsz hi1)).1
    refine W.skip ?_
    refine W.seq ?_
    refine W.drawK X [] [] [2, 5, 6] [] 32767 (.ph 32767 (.br 32767 15 (.ph 0 (.br 0 16 (.last 0) (.nil))) (.br 28671 15 (.ph 4096 (.br 4096 16 (.last 0) (.nil))) (.br 26623 15 (.ph 6144 (.br 6144 16 (.last 0) (.nil))) (.br 25599 15 (.ph 7168 (.br 7168 16 (.last 0) (.nil))) (.br 25087 15 (.ph 7680 (.br 7680 16 (.last 0) (.nil))) (.br 24831 15 (.ph 7936 (.br 7936 16 (.last 0) (.nil))) (.br 25471 15 (.ph 7296 (.br 7296 16 (.last 0) (.nil))) (.br 24959 15 (.ph 7808 (.br 7808 16 (.last 0) (.nil))) (.br 24703 15 (.ph 8064 (.br 8064 16 (.last 0) (.nil))) (.br 25407 15 (.ph 7360 (.br 7360 16 (.last 0) (.nil))) (.br 24895 15 (.ph 7872 (.br 7872 16 (.last 0) (.nil))) (.br 24639 15 (.ph 8128 (.br 8128 16 (.last 0) (.nil))) (.nil)))))))))))))) 11 MO (by kernel_rfl) rfl (by kernel_rfl) (by (repeat' (first | exact True.intro | apply And.intro)) <;> first | (intros; omega)) ?_
    refine W.seq ?_
    refine W.reg X [] [] [2, 5, 6, 7] [] rfl ⟨⟩ ?_
    refine W.seq ?_
    refine W.seq ?_
    refine W.reg X [] [] [2, 5, 6, 7, 34, 35, 36] [] rfl ⟨⟩ ?_
    refine W.block ?_
    refine W.loopO (fun k => k ≤ x.archive.rounds.length) (fun k : Nat => [(7, .one (.a (.lit (.int .i64 ((rcount x (x.devices.getD i.toNat (dfl .Dev)).live (x.devices.getD (IntKind.i64.wrap (BitVec.ofInt IntKind.i64.bits i ^^^ BitVec.ofInt IntKind.i64.bits 1).toNat).toNat (dfl .Dev)).live (x.archive.rounds.take k) : Nat) : Int))))), (36, .one (.a (.lit (.int .i64 k))))]) (fun k => []) (fun k => x.archive.rounds.length - k) 0 (fun k => rfl) (Nat.zero_le _) rfl ?_
    intro k hk
    refine W.seq ?_
    refine W.reg X [] [] [2, 5, 6, 7, 34, 35, 36, 37] [] rfl ⟨⟩ ?_
    refine W.seq ?_
    refine W.cond rfl (fun hb1 => ?_) (fun hb1 => ?_)
    · try simp only [nb, inr_t, inr_f, isEmpty_t] at hb1
      have hkl := hb1
      have hs := rcount_step x (x.devices.getD i.toNat (dfl .Dev)).live (x.devices.getD (IntKind.i64.wrap (BitVec.ofInt IntKind.i64.bits i ^^^ BitVec.ofInt IntKind.i64.bits 1).toNat).toNat (dfl .Dev)).live x.archive.rounds k hkl
      have hle := rcount_le x (x.devices.getD i.toNat (dfl .Dev)).live (x.devices.getD (IntKind.i64.wrap (BitVec.ofInt IntKind.i64.bits i ^^^ BitVec.ofInt IntKind.i64.bits 1).toNat).toNat (dfl .Dev)).live x.archive.rounds k
      have har := lsz_ar hsz k hkl
      refine W.skip ?_
      refine W.seq ?_
      refine W.block ?_
      refine W.seq ?_
      refine W.reg X [] [] [2, 5, 6, 7, 9, 34, 35, 36] [] rfl (by (repeat' (first | exact True.intro | apply And.intro)) <;> first | (intros; omega)) ?_
      refine W.seq ?_
      refine W.seq ?_
      refine W.reg X [] [] [2, 5, 6, 7, 9, 34, 35, 36, 51] [] rfl ⟨⟩ ?_
      refine W.cond rfl (fun hb2 => ?_) (fun hb2 => ?_)
      · try simp only [nb, inr_t, inr_f, isEmpty_t] at hb2
        rw [rstep_skip hb2] at hs
        refine W.exit ?_
        refine W.reg X [] [] [2, 5, 6, 7, 34, 35, 36] [] rfl ⟨⟩ ?_
        refine ⟨k + 1, by omega, by omega, ?_⟩
        rw [wadd _ k rfl (by omega), hs]
        try rfl
      · try simp only [nb, inr_t, inr_f, isEmpty_t] at hb2
        have hns : ¬ ((x.archive.rounds.getD k (dfl .ARound)).round < (x.devices.getD (IntKind.i64.wrap (BitVec.ofInt IntKind.i64.bits i ^^^ BitVec.ofInt IntKind.i64.bits 1).toNat).toNat (dfl .Dev)).live.next ∨ (x.devices.getD i.toNat (dfl .Dev)).live.submitted.length ≤ rcount x (x.devices.getD i.toNat (dfl .Dev)).live (x.devices.getD (IntKind.i64.wrap (BitVec.ofInt IntKind.i64.bits i ^^^ BitVec.ofInt IntKind.i64.bits 1).toNat).toNat (dfl .Dev)).live (x.archive.rounds.take k)) := by omega
        refine W.skip ?_
        refine W.seq ?_
        refine W.draw X [] [(60, ⟨false, [.a (.lit (.int .i64 (dirn ((x.devices.getD i.toNat (dfl .Dev)).live))))]⟩), (63, ⟨false, [.a (.lit (.int .i64 (mrow ((x.devices.getD i.toNat (dfl .Dev)).live.key) ((x.archive.rounds.getD k (dfl .ARound)).round) (dirn (x.devices.getD i.toNat (dfl .Dev)).live) x.rows)))]⟩), (64, ⟨true, [.a (.sl .u8 (rowAt ((x.archive.rounds.getD k (dfl .ARound)).db) (mrow (x.devices.getD i.toNat (dfl .Dev)).live.key (x.archive.rounds.getD k (dfl .ARound)).round (dirn (x.devices.getD i.toNat (dfl .Dev)).live) x.rows))), .a (.lit (.bool (rowOK ((x.archive.rounds.getD k (dfl .ARound)).db) (mrow (x.devices.getD i.toNat (dfl .Dev)).live.key (x.archive.rounds.getD k (dfl .ARound)).round (dirn (x.devices.getD i.toNat (dfl .Dev)).live) x.rows))))]⟩)] [2, 5, 6, 7, 10, 11, 34, 35, 36] [] 17 MO (by kernel_rfl) rfl (by (repeat' (first | with_reducible exact AllP.nil | with_reducible refine AllP.mk ?_ ?_ | with_reducible apply And.intro)) <;> skip; (iterate 3 (all_goals try (first | exact (c_impl_direction ((x.devices.getD i.toNat (dfl .Dev)).live)) | exact (c_impl_MailboxRow ((x.devices.getD i.toNat (dfl .Dev)).live.key) ((x.archive.rounds.getD k (dfl .ARound)).round) (dirn (x.devices.getD i.toNat (dfl .Dev)).live) x.rows) | exact (c_impl_ReadRow ((x.archive.rounds.getD k (dfl .ARound)).db) (mrow (x.devices.getD i.toNat (dfl .Dev)).live.key (x.archive.rounds.getD k (dfl .ARound)).round (dirn (x.devices.getD i.toNat (dfl .Dev)).live) x.rows) (by first | assumption | omega | (simp; done) | (simp; omega))))))) ?_
        refine W.seq ?_
        refine W.reg X [] [(72, ⟨false, [.a (.sl .u8 (mcell ((x.devices.getD i.toNat (dfl .Dev)).live) ((rcount x (x.devices.getD i.toNat (dfl .Dev)).live (x.devices.getD (IntKind.i64.wrap (BitVec.ofInt IntKind.i64.bits i ^^^ BitVec.ofInt IntKind.i64.bits 1).toNat).toNat (dfl .Dev)).live (x.archive.rounds.take k) : Nat) : Int)))]⟩), (73, ⟨false, [.a (.lit (.bool ((rowAt (x.archive.rounds.getD k (dfl .ARound)).db (mrow (x.devices.getD i.toNat (dfl .Dev)).live.key (x.archive.rounds.getD k (dfl .ARound)).round (dirn (x.devices.getD i.toNat (dfl .Dev)).live) x.rows)) == (mcell (x.devices.getD i.toNat (dfl .Dev)).live ((rcount x (x.devices.getD i.toNat (dfl .Dev)).live (x.devices.getD (IntKind.i64.wrap (BitVec.ofInt IntKind.i64.bits i ^^^ BitVec.ofInt IntKind.i64.bits 1).toNat).toNat (dfl .Dev)).live (x.archive.rounds.take k) : Nat) : Int)))))]⟩)] [2, 5, 6, 7, 34, 35, 36, 74] [] rfl (by (repeat' (first | with_reducible exact AllP.nil | with_reducible refine AllP.mk ?_ ?_ | with_reducible apply And.intro)) <;> skip; (iterate 2 (all_goals try (first | exact fun _ => (c_impl_messageCell ((x.devices.getD i.toNat (dfl .Dev)).live) ((rcount x (x.devices.getD i.toNat (dfl .Dev)).live (x.devices.getD (IntKind.i64.wrap (BitVec.ofInt IntKind.i64.bits i ^^^ BitVec.ofInt IntKind.i64.bits 1).toNat).toNat (dfl .Dev)).live (x.archive.rounds.take k) : Nat) : Int) (by first | assumption | omega | (simp; done) | (simp; omega)) (by first | assumption | omega | (simp; done) | (simp; omega))) | exact fun _ => (c_impl_EqualBytes (rowAt (x.archive.rounds.getD k (dfl .ARound)).db (mrow (x.devices.getD i.toNat (dfl .Dev)).live.key (x.archive.rounds.getD k (dfl .ARound)).round (dirn (x.devices.getD i.toNat (dfl .Dev)).live) x.rows)) (mcell (x.devices.getD i.toNat (dfl .Dev)).live ((rcount x (x.devices.getD i.toNat (dfl .Dev)).live (x.devices.getD (IntKind.i64.wrap (BitVec.ofInt IntKind.i64.bits i ^^^ BitVec.ofInt IntKind.i64.bits 1).toNat).toNat (dfl .Dev)).live (x.archive.rounds.take k) : Nat) : Int))))))) ?_
        refine W.cond rfl (fun hb3 => ?_) (fun hb3 => ?_)
        · rw [ite_ff] at hb3
          rw [rstep_hit hns hb3] at hs
          refine W.reg X [] [] [2, 5, 6, 7, 34, 35, 36] [] rfl ⟨⟩ ?_
          refine W.reg X [] [] [2, 5, 6, 7, 34, 35, 36] [] rfl ⟨⟩ ?_
          refine ⟨k + 1, by omega, by omega, ?_⟩
          rw [wadd _ k rfl (by omega), wadd _ (rcount x (x.devices.getD i.toNat (dfl .Dev)).live (x.devices.getD (IntKind.i64.wrap (BitVec.ofInt IntKind.i64.bits i ^^^ BitVec.ofInt IntKind.i64.bits 1).toNat).toNat (dfl .Dev)).live (x.archive.rounds.take k)) rfl (by omega), hs]
          try rfl
        · rw [ite_ff] at hb3
          rw [rstep_miss hns hb3] at hs
          refine W.skip ?_
          refine W.reg X [] [] [2, 5, 6, 7, 34, 35, 36] [] rfl ⟨⟩ ?_
          refine ⟨k + 1, by omega, by omega, ?_⟩
          rw [wadd _ k rfl (by omega), hs]
          try rfl
    · try simp only [nb, inr_t, inr_f, isEmpty_t] at hb1
      refine W.exit ?_
      refine W.seq ?_
      refine W.reg X [] [] [4] [] rfl ⟨⟩ ?_
      refine W.ret ?_
      exact Fin.ret rfl ⟨by rw [List.take_of_length_le hb1, sentRecv, if_pos hpk, hx2], ⟨⟩⟩
theorem c_spec_SentIsReceived (x : Wld) (i : Int) (hsz : size_Wld x ≤ 1048576) : Sound ty Tryz.prog 79 [.agg (dec_Wld x), .a (.lit (.int .i64 i))] [.a (.lit (.bool (sentRecv x i)))] := by
  refine Sound.of X Tryz.call79 Tryz.func79 rfl rfl (by decide) Tryz.ntmps79 (by simp) ?_
  intro zb
  have hd : x.devices.length ≤ 1048576 := dev_le hsz
  have hrl : x.archive.rounds.length ≤ 1048576 := rounds_le hsz
  refine W.seq ?_
  refine W.reg X [] [] [1, 2] [] rfl ⟨⟩ ?_
  refine W.seq ?_
  refine W.seq ?_
  refine W.reg X [] [(15, ⟨false, [.a (.lit (.bool (pairOK x i)))]⟩)] [1, 2, 16] [] rfl (by (repeat' (first | with_reducible exact AllP.nil | with_reducible refine AllP.mk ?_ ?_ | with_reducible apply And.intro)) <;> skip; (iterate 1 (all_goals try (first | exact (c_spec_l37Pair x i (by first | assumption | omega | (simp; done) | (simp; omega))))))) ?_
  refine W.cond rfl (fun hb0 => ?_) (fun hb0 => ?_)
  · have hpk : pairOK x i = false := by simpa using hb0
    refine W.seq ?_
    refine W.reg X [] [] [4] [] rfl ⟨⟩ ?_
    refine W.ret ?_
    exact Fin.ret rfl ⟨by rw [sentRecv, if_neg (by rw [hpk]; decide)], ⟨⟩⟩
  · have hpk : pairOK x i = true := by simpa using hb0
    obtain ⟨hi0, hi1, hi2, hi3⟩ := pair_lt hpk
    have hx := xorN i.toNat (by omega)
    rw [← hi3] at hx
    have hx2 : (IntKind.i64.wrap (BitVec.ofInt IntKind.i64.bits i ^^^ BitVec.ofInt IntKind.i64.bits 1).toNat).toNat = i.toNat ^^^ 1 := by rw [hx]; rfl
    have hin := inbox_le hsz (k := (IntKind.i64.wrap (BitVec.ofInt IntKind.i64.bits i ^^^ BitVec.ofInt IntKind.i64.bits 1).toNat).toNat) (by rw [hx2]; exact hi2)
    have hsb := lsz_len (live_le (lsz_cli hsz hi1)).1
    refine W.skip ?_
    refine W.seq ?_
    refine W.reg X [] [] [1, 2, 5] [] rfl (by (repeat' (first | exact True.intro | apply And.intro)) <;> first | (intros; omega)) ?_
    refine W.seq ?_
    refine W.reg X [] [] [1, 2, 5, 6] [] rfl (by (repeat' (first | exact True.intro | apply And.intro)) <;> first | (intros; omega)) ?_
    refine W.seq ?_
    refine W.seq ?_
    refine W.reg X [] [] [1, 2, 5, 6, 7] [] rfl ⟨⟩ ?_
    refine W.block ?_
    refine W.loopO (fun k => k ≤ x.archive.rounds.length) (fun k : Nat => [(6, .one (.a (.lit (.int .i64 ((rcount x (x.devices.getD i.toNat (dfl .Dev)).live (x.devices.getD (IntKind.i64.wrap (BitVec.ofInt IntKind.i64.bits i ^^^ BitVec.ofInt IntKind.i64.bits 1).toNat).toNat (dfl .Dev)).live (x.archive.rounds.take k) : Nat) : Int))))), (7, .one (.a (.lit (.int .i64 k))))]) (fun k => []) (fun k => x.archive.rounds.length - k) 0 (fun k => rfl) (Nat.zero_le _) rfl ?_
    intro k hk
    refine W.seq ?_
    refine W.seq ?_
    refine W.reg X [] [] [1, 2, 5, 6, 7, 44] [] rfl ⟨⟩ ?_
    refine W.cond rfl (fun hb1 => ?_) (fun hb1 => ?_)
    · try simp only [nb, inr_t, inr_f, isEmpty_t] at hb1
      have hkl := hb1.1
      have hs := rcount_step x (x.devices.getD i.toNat (dfl .Dev)).live (x.devices.getD (IntKind.i64.wrap (BitVec.ofInt IntKind.i64.bits i ^^^ BitVec.ofInt IntKind.i64.bits 1).toNat).toNat (dfl .Dev)).live x.archive.rounds k hkl
      have hle := rcount_le x (x.devices.getD i.toNat (dfl .Dev)).live (x.devices.getD (IntKind.i64.wrap (BitVec.ofInt IntKind.i64.bits i ^^^ BitVec.ofInt IntKind.i64.bits 1).toNat).toNat (dfl .Dev)).live x.archive.rounds k
      have har := lsz_ar hsz k hkl
      refine W.skip ?_
      refine W.seq ?_
      refine W.block ?_
      refine W.seq ?_
      refine W.reg X [] [] [1, 2, 5, 6, 7, 8] [] rfl (by (repeat' (first | exact True.intro | apply And.intro)) <;> first | (intros; omega)) ?_
      refine W.seq ?_
      refine W.seq ?_
      refine W.draw X [] [] [1, 2, 5, 6, 7, 8, 63] [] 11 MO (by kernel_rfl) rfl (by (repeat' (first | exact True.intro | apply And.intro)) <;> first | (intros; omega)) ?_
      refine W.cond rfl (fun hb2 => ?_) (fun hb2 => ?_)
      · try simp only [nb, inr_t, inr_f, isEmpty_t] at hb2
        rw [rstep_skip (Or.inl hb2)] at hs
        refine W.exit ?_
        refine W.reg X [] [] [1, 2, 5, 6, 7] [] rfl ⟨⟩ ?_
        refine ⟨k + 1, by omega, by omega, ?_⟩
        rw [wadd _ k rfl (by omega), hs]
        try rfl
      · try simp only [nb, inr_t, inr_f, isEmpty_t] at hb2
        have hns : ¬ ((x.archive.rounds.getD k (dfl .ARound)).round < (x.devices.getD (IntKind.i64.wrap (BitVec.ofInt IntKind.i64.bits i ^^^ BitVec.ofInt IntKind.i64.bits 1).toNat).toNat (dfl .Dev)).live.next ∨ (x.devices.getD i.toNat (dfl .Dev)).live.submitted.length ≤ rcount x (x.devices.getD i.toNat (dfl .Dev)).live (x.devices.getD (IntKind.i64.wrap (BitVec.ofInt IntKind.i64.bits i ^^^ BitVec.ofInt IntKind.i64.bits 1).toNat).toNat (dfl .Dev)).live (x.archive.rounds.take k)) := by omega
        refine W.skip ?_
        refine W.seq ?_
        refine W.draw X [] [(69, ⟨false, [.a (.lit (.int .i64 (dirn ((x.devices.getD i.toNat (dfl .Dev)).live))))]⟩), (72, ⟨false, [.a (.lit (.int .i64 (mrow ((x.devices.getD i.toNat (dfl .Dev)).live.key) ((x.archive.rounds.getD k (dfl .ARound)).round) (dirn (x.devices.getD i.toNat (dfl .Dev)).live) x.rows)))]⟩)] [1, 2, 5, 6, 7, 8, 9] [] 10 MO (by kernel_rfl) rfl (by (repeat' (first | with_reducible exact AllP.nil | with_reducible refine AllP.mk ?_ ?_ | with_reducible apply And.intro)) <;> skip; (iterate 2 (all_goals try (first | exact (c_spec_l29Direction ((x.devices.getD i.toNat (dfl .Dev)).live)) | exact (c_spec_MailboxRow ((x.devices.getD i.toNat (dfl .Dev)).live.key) ((x.archive.rounds.getD k (dfl .ARound)).round) (dirn (x.devices.getD i.toNat (dfl .Dev)).live) x.rows))))) ?_
        refine W.seq ?_
        refine W.reg X [] [] [1, 2, 5, 6, 7, 8, 9, 10] [] rfl (by (repeat' (first | exact True.intro | apply And.intro))) ?_
        refine W.seq ?_
        refine W.reg X [] [] [1, 2, 5, 6, 7, 8, 9, 10] [] rfl ⟨⟩ ?_
        refine W.seq ?_
        refine W.reg X [] [(80, ⟨true, [.a (.sl .u8 (rowAt ((x.archive.rounds.getD k (dfl .ARound)).db) (mrow (x.devices.getD i.toNat (dfl .Dev)).live.key (x.archive.rounds.getD k (dfl .ARound)).round (dirn (x.devices.getD i.toNat (dfl .Dev)).live) x.rows))), .a (.lit (.bool (rowOK ((x.archive.rounds.getD k (dfl .ARound)).db) (mrow (x.devices.getD i.toNat (dfl .Dev)).live.key (x.archive.rounds.getD k (dfl .ARound)).round (dirn (x.devices.getD i.toNat (dfl .Dev)).live) x.rows))))]⟩)] [1, 2, 5, 6, 7, 10, 11, 12] [] rfl (by (repeat' (first | with_reducible exact AllP.nil | with_reducible refine AllP.mk ?_ ?_ | with_reducible apply And.intro)) <;> skip; (iterate 1 (all_goals try (first | exact (c_spec_ReadRow ((x.archive.rounds.getD k (dfl .ARound)).db) (mrow (x.devices.getD i.toNat (dfl .Dev)).live.key (x.archive.rounds.getD k (dfl .ARound)).round (dirn (x.devices.getD i.toNat (dfl .Dev)).live) x.rows) (by first | assumption | omega | (simp; done) | (simp; omega))))))) ?_
        refine W.seq ?_
        refine W.reg X [] [(87, ⟨false, [.a (.sl .u8 (mcell ({ (x.devices.getD i.toNat (dfl .Dev)).live with sent := ((rcount x (x.devices.getD i.toNat (dfl .Dev)).live (x.devices.getD (IntKind.i64.wrap (BitVec.ofInt IntKind.i64.bits i ^^^ BitVec.ofInt IntKind.i64.bits 1).toNat).toNat (dfl .Dev)).live (x.archive.rounds.take k) : Nat) : Int) } : Cli) ({ (x.devices.getD i.toNat (dfl .Dev)).live with sent := ((rcount x (x.devices.getD i.toNat (dfl .Dev)).live (x.devices.getD (IntKind.i64.wrap (BitVec.ofInt IntKind.i64.bits i ^^^ BitVec.ofInt IntKind.i64.bits 1).toNat).toNat (dfl .Dev)).live (x.archive.rounds.take k) : Nat) : Int) } : Cli).sent))]⟩), (88, ⟨false, [.a (.lit (.bool ((rowAt (x.archive.rounds.getD k (dfl .ARound)).db (mrow (x.devices.getD i.toNat (dfl .Dev)).live.key (x.archive.rounds.getD k (dfl .ARound)).round (dirn (x.devices.getD i.toNat (dfl .Dev)).live) x.rows)) == (mcell ({ (x.devices.getD i.toNat (dfl .Dev)).live with sent := ((rcount x (x.devices.getD i.toNat (dfl .Dev)).live (x.devices.getD (IntKind.i64.wrap (BitVec.ofInt IntKind.i64.bits i ^^^ BitVec.ofInt IntKind.i64.bits 1).toNat).toNat (dfl .Dev)).live (x.archive.rounds.take k) : Nat) : Int) } : Cli) ((rcount x (x.devices.getD i.toNat (dfl .Dev)).live (x.devices.getD (IntKind.i64.wrap (BitVec.ofInt IntKind.i64.bits i ^^^ BitVec.ofInt IntKind.i64.bits 1).toNat).toNat (dfl .Dev)).live (x.archive.rounds.take k) : Nat) : Int)))))]⟩)] [1, 2, 5, 6, 7, 89] [] rfl (by (repeat' (first | with_reducible exact AllP.nil | with_reducible refine AllP.mk ?_ ?_ | with_reducible apply And.intro)) <;> skip; (iterate 2 (all_goals try (first | exact fun _ => (c_spec_l29Cell ({ (x.devices.getD i.toNat (dfl .Dev)).live with sent := ((rcount x (x.devices.getD i.toNat (dfl .Dev)).live (x.devices.getD (IntKind.i64.wrap (BitVec.ofInt IntKind.i64.bits i ^^^ BitVec.ofInt IntKind.i64.bits 1).toNat).toNat (dfl .Dev)).live (x.archive.rounds.take k) : Nat) : Int) } : Cli) (by show (0 : Int) ≤ ((rcount x (x.devices.getD i.toNat (dfl .Dev)).live (x.devices.getD (IntKind.i64.wrap (BitVec.ofInt IntKind.i64.bits i ^^^ BitVec.ofInt IntKind.i64.bits 1).toNat).toNat (dfl .Dev)).live (x.archive.rounds.take k) : Nat) : Int); omega) (by show ((rcount x (x.devices.getD i.toNat (dfl .Dev)).live (x.devices.getD (IntKind.i64.wrap (BitVec.ofInt IntKind.i64.bits i ^^^ BitVec.ofInt IntKind.i64.bits 1).toNat).toNat (dfl .Dev)).live (x.archive.rounds.take k) : Nat) : Int) < ((x.devices.getD i.toNat (dfl .Dev)).live.submitted.length : Int); omega)) | exact fun _ => (c_spec_EqualBytes (rowAt (x.archive.rounds.getD k (dfl .ARound)).db (mrow (x.devices.getD i.toNat (dfl .Dev)).live.key (x.archive.rounds.getD k (dfl .ARound)).round (dirn (x.devices.getD i.toNat (dfl .Dev)).live) x.rows)) (mcell ({ (x.devices.getD i.toNat (dfl .Dev)).live with sent := ((rcount x (x.devices.getD i.toNat (dfl .Dev)).live (x.devices.getD (IntKind.i64.wrap (BitVec.ofInt IntKind.i64.bits i ^^^ BitVec.ofInt IntKind.i64.bits 1).toNat).toNat (dfl .Dev)).live (x.archive.rounds.take k) : Nat) : Int) } : Cli) ((rcount x (x.devices.getD i.toNat (dfl .Dev)).live (x.devices.getD (IntKind.i64.wrap (BitVec.ofInt IntKind.i64.bits i ^^^ BitVec.ofInt IntKind.i64.bits 1).toNat).toNat (dfl .Dev)).live (x.archive.rounds.take k) : Nat) : Int))))))) ?_
        refine W.cond rfl (fun hb3 => ?_) (fun hb3 => ?_)
        · rw [ite_ff] at hb3
          rw [rstep_hit hns hb3] at hs
          refine W.reg X [] [] [1, 2, 5, 6, 7] [] rfl ⟨⟩ ?_
          refine W.reg X [] [] [1, 2, 5, 6, 7] [] rfl ⟨⟩ ?_
          refine ⟨k + 1, by omega, by omega, ?_⟩
          rw [wadd _ k rfl (by omega), wadd _ (rcount x (x.devices.getD i.toNat (dfl .Dev)).live (x.devices.getD (IntKind.i64.wrap (BitVec.ofInt IntKind.i64.bits i ^^^ BitVec.ofInt IntKind.i64.bits 1).toNat).toNat (dfl .Dev)).live (x.archive.rounds.take k)) rfl (by omega), hs]
          try rfl
        · rw [ite_ff] at hb3
          rw [rstep_miss hns hb3] at hs
          refine W.skip ?_
          refine W.reg X [] [] [1, 2, 5, 6, 7] [] rfl ⟨⟩ ?_
          refine ⟨k + 1, by omega, by omega, ?_⟩
          rw [wadd _ k rfl (by omega), hs]
          try rfl
    · try simp only [nb, inr_t, inr_f, isEmpty_t] at hb1
      have hfin : rcount x (x.devices.getD i.toNat (dfl .Dev)).live (x.devices.getD (IntKind.i64.wrap (BitVec.ofInt IntKind.i64.bits i ^^^ BitVec.ofInt IntKind.i64.bits 1).toNat).toNat (dfl .Dev)).live x.archive.rounds = rcount x (x.devices.getD i.toNat (dfl .Dev)).live (x.devices.getD (IntKind.i64.wrap (BitVec.ofInt IntKind.i64.bits i ^^^ BitVec.ofInt IntKind.i64.bits 1).toNat).toNat (dfl .Dev)).live (x.archive.rounds.take k) := by
        rcases Nat.lt_or_ge k x.archive.rounds.length with h | h
        · exact rcount_done _ _ _ _ _ (by omega)
        · rw [List.take_of_length_le h]
      refine W.exit ?_
      refine W.seq ?_
      refine W.reg X [] [] [4] [] rfl ⟨⟩ ?_
      refine W.ret ?_
      exact Fin.ret rfl ⟨by rw [sentRecv, if_pos hpk, ← hx2, hfin], ⟨⟩⟩
end Go.Proofs.YtlocnjfgeifmnaaGreat.G
namespace Go.Proofs.YtlocnjfgeifmnaaGreat.G
set_option linter.all false
open Go.RowKit L D
set_option maxRecDepth 100000
theorem c_impl_RoundsSince (a : Arc) (f : Int) (hal : a.rounds.length ≤ 1048576) : Sound ty Tryz.prog 159 [.agg (dec_Arc a), .a (.lit (.int .i64 f))] [.a (.sl .int (rsince a.rounds f))] := by
  refine Sound.of X Tryz.call159 Tryz.func159 rfl rfl (by decide) Tryz.ntmps159 (by simp) ?_
  intro zb
  refine W.seq ?_
  refine W.reg X [] [] [1, 2] [] rfl ⟨⟩ ?_
  refine W.seq ?_
  refine W.reg X [] [] [1, 2, 5] [] rfl (by (repeat' (first | exact True.intro | apply And.intro)) <;> first | exact rfl) ?_
  refine W.seq ?_
  refine W.seq ?_
  refine W.reg X [] [] [1, 5, 10, 11, 12] [] rfl ⟨⟩ ?_
  refine W.block ?_
  refine W.loopO (fun k => k ≤ a.rounds.length) (fun k : Nat => [(12, .one (.a (.lit (.int .i64 k))))]) (fun k => [(8, .arr .int (rsince (a.rounds.take k) f))]) (fun k => a.rounds.length - k) 0 (fun k => rfl) (Nat.zero_le _) rfl ?_
  intro k hk
  have hle := rsince_take a.rounds f k
  refine W.seq ?_
  refine W.reg X [] [] [1, 5, 10, 11, 12, 13] [] rfl ⟨⟩ ?_
  refine W.seq ?_
  refine W.cond rfl (fun hb0 => ?_) (fun hb0 => ?_)
  · try simp only [nb, inr_t, inr_f, isEmpty_t] at hb0
    refine W.skip ?_
    refine W.seq ?_
    refine W.block ?_
    refine W.seq ?_
    refine W.reg X [] [] [1, 5, 7, 10, 11, 12] [] rfl (by (repeat' (first | exact True.intro | apply And.intro)) <;> first | (intros; omega)) ?_
    refine W.seq ?_
    refine W.reg X [] [] [1, 5, 7, 10, 11, 12, 19] [] rfl ⟨⟩ ?_
    refine W.cond rfl (fun hb1 => ?_) (fun hb1 => ?_)
    · try simp only [nb, inr_t, inr_f, isEmpty_t] at hb1
      have hs := rsince_hit a.rounds f k hb0 (by omega)
      refine W.reg X [(24, 8)] [] [1, 5, 10, 11, 12] [] rfl (by (repeat' (first | exact True.intro | apply And.intro)) <;> first | exact rfl | (simp only [byt, maxLen, lens]; omega)) ?_
      refine W.reg X [] [] [1, 5, 10, 11, 12] [] rfl ⟨⟩ ?_
      refine ⟨k + 1, by omega, by omega, ?_⟩
      rw [wadd _ k rfl (by omega), hs]
      try rfl
    · try simp only [nb, inr_t, inr_f, isEmpty_t] at hb1
      have hs := rsince_miss a.rounds f k hb0 (by omega)
      refine W.skip ?_
      refine W.reg X [] [] [1, 5, 10, 11, 12] [] rfl ⟨⟩ ?_
      refine ⟨k + 1, by omega, by omega, ?_⟩
      rw [wadd _ k rfl (by omega), hs]
      try rfl
  · try simp only [nb, inr_t, inr_f, isEmpty_t] at hb0
    refine W.exit ?_
    refine W.seq ?_
    refine W.reg X [] [] [4] [] rfl ⟨⟩ ?_
    refine W.ret ?_
    exact Fin.ret rfl ⟨by rw [List.take_of_length_le hb0], ⟨⟩⟩
theorem c_impl_ArchiveIsRecent (x : Wld) (hal : x.archive.rounds.length ≤ 1048576) : Sound ty Tryz.prog 81 [.agg (dec_Wld x)] [.a (.lit (.bool (recent x)))] := by
  refine Sound.of X Tryz.call81 Tryz.func81 rfl rfl (by decide) Tryz.ntmps81 (by simp) ?_
  intro zb
  refine W.boundA 0 2 rfl rfl (fun hl2 => ?_)
  refine W.seq ?_
  refine W.reg X [] [] [1] [] rfl ⟨⟩ ?_
  refine W.seq ?_
  refine W.reg X [] [] [1, 3] [] rfl ⟨⟩ ?_
  refine W.seq ?_
  refine W.seq ?_
  refine W.reg X [] [] [1, 3, 10, 11, 12] [] rfl ⟨⟩ ?_
  refine W.block ?_
  refine W.loopO (fun k => k ≤ x.devices.length ∧ (x.devices.take k).all (devRec x) = true) (fun k : Nat => [(12, .one (.a (.lit (.int .i64 k))))]) (fun k => []) (fun k => x.devices.length - k) 0 (fun k => rfl) ⟨Nat.zero_le _, rfl⟩ rfl ?_
  rintro k ⟨hk, hall⟩
  refine W.seq ?_
  refine W.reg X [] [] [1, 3, 10, 11, 12, 13] [] rfl ⟨⟩ ?_
  refine W.seq ?_
  refine W.cond rfl (fun hb0 => ?_) (fun hb0 => ?_)
  · try simp only [nb, inr_t, inr_f, isEmpty_t] at hb0
    refine W.skip ?_
    refine W.seq ?_
    refine W.block ?_
    refine W.seq ?_
    refine W.reg X [] [] [1, 3, 5, 10, 11, 12] [] rfl (by (repeat' (first | exact True.intro | apply And.intro)) <;> first | (intros; omega)) ?_
    refine W.seq ?_
    refine W.draw X [] [(21, ⟨true, [.a (.sl .int (rsince x.archive.rounds ((x.devices.getD k (dfl .Dev)).saved.next)))]⟩)] [1, 3, 10, 11, 12, 38] [] 23 MO (by kernel_rfl) rfl (by (repeat' (first | with_reducible exact AllP.nil | with_reducible refine AllP.mk ?_ ?_ | with_reducible apply And.intro)) <;> skip; (iterate 1 (all_goals try (first | exact (c_impl_RoundsSince x.archive ((x.devices.getD k (dfl .Dev)).saved.next) (by first | assumption | omega | (simp; done) | (simp; omega)))))); all_goals (first | ((intro h1; first | (intro h2; first | (intro h3; refine And.intro ?_ ?_) | refine And.intro ?_ ?_) | refine And.intro ?_ ?_) <;> first | omega | ((try simp only [nb, inr_t, inr_f] at *); (try simp (disch := omega) only [i64w]); omega)))) ?_
    refine W.cond rfl (fun hb1 => ?_) (fun hb1 => ?_)
    · have hne : devRec x (x.devices.getD k (dfl .Dev)) = false := or_no1 hb1 (by simp only [devRec, Int.toNat_zero, ite_tt, ite_ff, gt_iff_lt, ge_iff_le, not_dlt, not_dle, bne_not, deq, decide_not, ne_eq, Bool.not_and, Bool.not_or, Bool.not_not, Bool.and_true, Bool.true_and, Bool.or_false, Bool.false_or, Int.toNat_natCast] <;> first | rfl | ac_rfl)
      refine W.seq ?_
      refine W.reg X [] [] [2] [] rfl ⟨⟩ ?_
      refine W.ret ?_
      exact Fin.ret rfl ⟨by rw [recent, all_no _ _ (dfl .Dev) k hb0 hne], ⟨⟩⟩
    · have hee : devRec x (x.devices.getD k (dfl .Dev)) = true := or_yes hb1 (by simp only [devRec, Int.toNat_zero, ite_tt, ite_ff, gt_iff_lt, ge_iff_le, not_dlt, not_dle, bne_not, deq, decide_not, ne_eq, Bool.not_and, Bool.not_or, Bool.not_not, Bool.and_true, Bool.true_and, Bool.or_false, Bool.false_or, Int.toNat_natCast] <;> first | rfl | ac_rfl)
      refine W.skip ?_
      refine W.reg X [] [] [1, 3, 10, 11, 12] [] rfl ⟨⟩ ?_
      refine ⟨k + 1, ⟨by omega, by rw [all_snoc _ _ _ (dfl .Dev) hb0, hall, Bool.true_and]; exact hee⟩, by omega, ?_⟩
      rw [wadd _ k rfl (by omega)]
      try rfl
  · try simp only [nb, inr_t, inr_f, isEmpty_t] at hb0
    refine W.exit ?_
    refine W.seq ?_
    refine W.reg X [] [] [2] [] rfl ⟨⟩ ?_
    refine W.ret ?_
    exact Fin.ret rfl ⟨by rw [List.take_of_length_le hb0] at hall; rw [recent, hall], ⟨⟩⟩
theorem c_spec_RoundsSince (a : Arc) (f : Int) (hal : a.rounds.length ≤ 1048576) : Sound ty Tryz.prog 158 [.agg (dec_Arc a), .a (.lit (.int .i64 f))] [.a (.sl .int (rsince a.rounds f))] := by
  refine Sound.of X Tryz.call158 Tryz.func158 rfl rfl (by decide) Tryz.ntmps158 (by simp) ?_
  intro zb
  refine W.seq ?_
  refine W.reg X [] [] [1, 2] [] rfl ⟨⟩ ?_
  refine W.seq ?_
  refine W.reg X [] [] [1, 2, 5] [] rfl (by (repeat' (first | exact True.intro | apply And.intro)) <;> first | exact rfl) ?_
  refine W.seq ?_
  refine W.seq ?_
  refine W.reg X [] [] [1, 2, 5, 6] [] rfl ⟨⟩ ?_
  refine W.block ?_
  refine W.loopO (fun k => k ≤ a.rounds.length) (fun k : Nat => [(6, .one (.a (.lit (.int .i64 k))))]) (fun k => [(7, .arr .int (rsince (a.rounds.take k) f))]) (fun k => a.rounds.length - k) 0 (fun k => rfl) (Nat.zero_le _) rfl ?_
  intro k hk
  have hle := rsince_take a.rounds f k
  refine W.seq ?_
  refine W.seq ?_
  refine W.reg X [] [] [1, 2, 5, 6, 12] [] rfl ⟨⟩ ?_
  refine W.cond rfl (fun hb0 => ?_) (fun hb0 => ?_)
  · try simp only [nb, inr_t, inr_f, isEmpty_t] at hb0
    refine W.skip ?_
    refine W.seq ?_
    refine W.block ?_
    refine W.seq ?_
    refine W.reg X [] [] [1, 2, 5, 6, 22] [] rfl (by (repeat' (first | exact True.intro | apply And.intro)) <;> first | (intros; omega)) ?_
    refine W.cond rfl (fun hb1 => ?_) (fun hb1 => ?_)
    · try simp only [nb, inr_t, inr_f, isEmpty_t] at hb1
      have hs := rsince_hit a.rounds f k hb0 (by omega)
      refine W.reg X [(31, 7)] [] [1, 2, 5, 6] [] rfl (by (repeat' (first | exact True.intro | apply And.intro)) <;> first | (intros; omega) | exact rfl | (simp only [byt, maxLen, lens]; omega)) ?_
      refine W.reg X [] [] [1, 2, 5, 6] [] rfl ⟨⟩ ?_
      refine ⟨k + 1, by omega, by omega, ?_⟩
      rw [wadd _ k rfl (by omega), hs]
      try rfl
    · try simp only [nb, inr_t, inr_f, isEmpty_t] at hb1
      have hs := rsince_miss a.rounds f k hb0 (by omega)
      refine W.skip ?_
      refine W.reg X [] [] [1, 2, 5, 6] [] rfl ⟨⟩ ?_
      refine ⟨k + 1, by omega, by omega, ?_⟩
      rw [wadd _ k rfl (by omega), hs]
      try rfl
  · try simp only [nb, inr_t, inr_f, isEmpty_t] at hb0
    refine W.exit ?_
    refine W.seq ?_
    refine W.reg X [] [] [4] [] rfl ⟨⟩ ?_
    refine W.ret ?_
    exact Fin.ret rfl ⟨by rw [List.take_of_length_le hb0], ⟨⟩⟩
theorem c_spec_ArchiveIsRecent (x : Wld) (hal : x.archive.rounds.length ≤ 1048576) : Sound ty Tryz.prog 80 [.agg (dec_Wld x)] [.a (.lit (.bool (recent x)))] := by
  refine Sound.of X Tryz.call80 Tryz.func80 rfl rfl (by decide) Tryz.ntmps80 (by simp) ?_
  intro zb
  refine W.boundA 0 2 rfl rfl (fun hl2 => ?_)
  refine W.seq ?_
  refine W.reg X [] [] [1] [] rfl ⟨⟩ ?_
  refine W.seq ?_
  refine W.seq ?_
  refine W.reg X [] [] [1, 3] [] rfl ⟨⟩ ?_
  refine W.block ?_
  refine W.loopO (fun k => k ≤ x.devices.length ∧ (x.devices.take k).all (devRec x) = true) (fun k : Nat => [(3, .one (.a (.lit (.int .i64 k))))]) (fun k => []) (fun k => x.devices.length - k) 0 (fun k => rfl) ⟨Nat.zero_le _, rfl⟩ rfl ?_
  rintro k ⟨hk, hall⟩
  refine W.seq ?_
  refine W.seq ?_
  refine W.reg X [] [] [1, 3, 9] [] rfl ⟨⟩ ?_
  refine W.cond rfl (fun hb0 => ?_) (fun hb0 => ?_)
  · try simp only [nb, inr_t, inr_f, isEmpty_t] at hb0
    refine W.skip ?_
    refine W.seq ?_
    refine W.block ?_
    refine W.seq ?_
    refine W.reg X [] [] [1, 3, 4] [] rfl (by (repeat' (first | exact True.intro | apply And.intro)) <;> first | (intros; omega)) ?_
    refine W.seq ?_
    refine W.reg X [] [(22, ⟨true, [.a (.sl .int (rsince x.archive.rounds ((x.devices.getD k (dfl .Dev)).saved.next)))]⟩)] [1, 3, 41] [] rfl (by (repeat' (first | with_reducible exact AllP.nil | with_reducible refine AllP.mk ?_ ?_ | with_reducible apply And.intro)) <;> skip; (iterate 1 (all_goals try (first | exact (c_spec_RoundsSince x.archive ((x.devices.getD k (dfl .Dev)).saved.next) (by first | assumption | omega | (simp; done) | (simp; omega)))))); all_goals (first | ((intro h1; first | (intro h2; first | (intro h3; refine And.intro ?_ ?_) | refine And.intro ?_ ?_) | refine And.intro ?_ ?_) <;> first | omega | ((try simp only [nb, inr_t, inr_f] at *); (try simp (disch := omega) only [i64w]); omega)))) ?_
    refine W.cond rfl (fun hb1 => ?_) (fun hb1 => ?_)
    · have hne : devRec x (x.devices.getD k (dfl .Dev)) = false := or_no1 hb1 (by simp only [devRec, Int.toNat_zero, ite_tt, ite_ff, gt_iff_lt, ge_iff_le, not_dlt, not_dle, bne_not, deq, decide_not, ne_eq, Bool.not_and, Bool.not_or, Bool.not_not, Bool.and_true, Bool.true_and, Bool.or_false, Bool.false_or, Int.toNat_natCast] <;> first | rfl | ac_rfl)
      refine W.seq ?_
      refine W.reg X [] [] [2] [] rfl ⟨⟩ ?_
      refine W.ret ?_
      exact Fin.ret rfl ⟨by rw [recent, all_no _ _ (dfl .Dev) k hb0 hne], ⟨⟩⟩
    · have hee : devRec x (x.devices.getD k (dfl .Dev)) = true := or_yes hb1 (by simp only [devRec, Int.toNat_zero, ite_tt, ite_ff, gt_iff_lt, ge_iff_le, not_dlt, not_dle, bne_not, deq, decide_not, ne_eq, Bool.not_and, Bool.not_or, Bool.not_not, Bool.and_true, Bool.true_and, Bool.or_false, Bool.false_or, Int.toNat_natCast] <;> first | rfl | ac_rfl)
      refine W.skip ?_
      refine W.reg X [] [] [1, 3] [] rfl ⟨⟩ ?_
      refine ⟨k + 1, ⟨by omega, by rw [all_snoc _ _ _ (dfl .Dev) hb0, hall, Bool.true_and]; exact hee⟩, by omega, ?_⟩
      rw [wadd _ k rfl (by omega)]
      try rfl
  · try simp only [nb, inr_t, inr_f, isEmpty_t] at hb0
    refine W.exit ?_
    refine W.seq ?_
    refine W.reg X [] [] [2] [] rfl ⟨⟩ ?_
    refine W.ret ?_
    exact Fin.ret rfl ⟨by rw [List.take_of_length_le hb0] at hall; rw [recent, hall], ⟨⟩⟩
theorem c_impl_InboxIsPrefix (x : Wld) (i : Int) (hd : x.devices.length ≤ 1048576) : Sound ty Tryz.prog 82 [.agg (dec_Wld x), .a (.lit (.int .i64 i))] [.a (.lit (.bool (inPre x i)))] := by
  refine Sound.of X Tryz.call82 Tryz.func82 rfl rfl (by decide) Tryz.ntmps82 (by simp) ?_
  intro zb
  have hf := fun h => pair_xr (i := i) hd h
  refine W.seq ?_
  refine W.reg X [] [] [1, 2] [] rfl ⟨⟩ ?_
  refine W.seq ?_
  refine W.draw X [] [(7, ⟨false, [.a (.lit (.bool (pairOK x i)))]⟩), (24, ⟨false, [.a (.lit (.bool (preL ((x.devices.getD i.toNat (dfl .Dev)).live.inbox) ((x.devices.getD (IntKind.i64.wrap (BitVec.ofInt IntKind.i64.bits i ^^^ BitVec.ofInt IntKind.i64.bits 1).toNat).toNat (dfl .Dev)).live.submitted))))]⟩)] [4] [] 22 MO (by kernel_rfl) rfl ⟨fun _ => c_impl_isPrefix _ _, fun h => (hf h).2.1, fun h => (hf h).1, c_impl_hasPair x i hd, ⟨⟩⟩ ?_
  refine W.ret ?_
  exact Fin.ret rfl ⟨by rw [ite_ff, inPre_xr hd], ⟨⟩⟩
theorem c_spec_InboxIsPrefix (x : Wld) (i : Int) (hd : x.devices.length ≤ 1048576) : Sound ty Tryz.prog 78 [.agg (dec_Wld x), .a (.lit (.int .i64 i))] [.a (.lit (.bool (inPre x i)))] := by
  refine Sound.of X Tryz.call78 Tryz.func78 rfl rfl (by decide) Tryz.ntmps78 (by simp) ?_
  intro zb
  refine W.seq ?_
  refine W.reg X [] [] [1, 2] [] rfl ⟨⟩ ?_
  refine W.seq ?_
  refine W.seq ?_
  refine W.reg X [] [(9, ⟨false, [.a (.lit (.bool (pairOK x i)))]⟩)] [1, 2, 10] [] rfl (by (repeat' (first | with_reducible exact AllP.nil | with_reducible refine AllP.mk ?_ ?_ | with_reducible apply And.intro)) <;> skip; (iterate 1 (all_goals try (first | exact (c_spec_l37Pair x i (by first | assumption | omega | (simp; done) | (simp; omega))))))) ?_
  refine W.cond rfl (fun hb0 => ?_) (fun hb0 => ?_)
  · have hpk : pairOK x i = false := by simpa using hb0
    refine W.seq ?_
    refine W.reg X [] [] [4] [] rfl ⟨⟩ ?_
    refine W.ret ?_
    exact Fin.ret rfl ⟨by rw [inPre, hpk]; rfl, ⟨⟩⟩
  · have hpk : pairOK x i = true := by simpa using hb0
    have hf := pair_xr hd hpk
    refine W.skip ?_
    refine W.seq ?_
    refine W.reg X [] [] [1, 2, 5] [] rfl (by (repeat' (first | exact True.intro | apply And.intro)) <;> first | (intros; omega)) ?_
    refine W.seq ?_
    refine W.reg X [] [] [5, 6] [] rfl (by (repeat' (first | exact True.intro | apply And.intro)) <;> first | (intros; omega)) ?_
    refine W.seq ?_
    refine W.reg X [] [(37, ⟨false, [.a (.lit (.bool (((x.devices.getD i.toNat (dfl .Dev)).live.inbox) == (((x.devices.getD (IntKind.i64.wrap (BitVec.ofInt IntKind.i64.bits i ^^^ BitVec.ofInt IntKind.i64.bits 1).toNat).toNat (dfl .Dev)).live.submitted.take ((x.devices.getD i.toNat (dfl .Dev)).live.inbox.length : Int).toNat).drop (0 : Int).toNat))))]⟩)] [4] [] rfl (by (repeat' (first | with_reducible exact AllP.nil | with_reducible refine AllP.mk ?_ ?_ | with_reducible apply And.intro)) <;> skip; (iterate 1 (all_goals try (first | exact fun _ => (c_spec_EqualLists ((x.devices.getD i.toNat (dfl .Dev)).live.inbox) (((x.devices.getD (IntKind.i64.wrap (BitVec.ofInt IntKind.i64.bits i ^^^ BitVec.ofInt IntKind.i64.bits 1).toNat).toNat (dfl .Dev)).live.submitted.take ((x.devices.getD i.toNat (dfl .Dev)).live.inbox.length : Int).toNat).drop (0 : Int).toNat))))); all_goals (first | ((intro h1; first | (intro h2; first | (intro h3; refine And.intro ?_ ?_) | refine And.intro ?_ ?_) | refine And.intro ?_ ?_) <;> first | omega | ((try simp only [nb, inr_t, inr_f] at *); (try simp (disch := omega) only [i64w]); omega)))) ?_
    refine W.ret ?_
    exact Fin.ret rfl ⟨by rw [← inPre_xr hd, hpk]; exact (congrArg Value.bool (by simp only [preL, List.drop_zero, Int.toNat_zero, ite_tt, ite_ff, gt_iff_lt, ge_iff_le, not_dlt, not_dle, bne_not, deq, decide_not, ne_eq, Bool.not_and, Bool.not_or, Bool.not_not, Bool.and_true, Bool.true_and, Bool.or_false, Bool.false_or, Int.toNat_natCast] <;> first | rfl | ac_rfl)), ⟨⟩⟩
theorem c_impl_AuditWorld (x : Wld) (hsz : size_Wld x ≤ 1048576) : Sound ty Tryz.prog 25 [.agg (dec_Wld x)] [.a (.lit (.bool (audit x)))] := by
  refine Sound.of X Tryz.call25 Tryz.func25 rfl rfl (by decide) Tryz.ntmps25 (by simp) ?_
  intro zb
  have hd : x.devices.length ≤ 1048576 := dev_le hsz
  have hrl : x.archive.rounds.length ≤ 1048576 := rounds_le hsz
  refine W.seq ?_
  refine W.reg X [] [] [1] [] rfl ⟨⟩ ?_
  refine W.seq ?_
  refine W.seq ?_
  refine W.reg X [] [(5, ⟨false, [.a (.lit (.bool (okW x)))]⟩), (9, ⟨false, [.a (.lit (.bool (recent x)))]⟩)] [1, 11] [] rfl (by (repeat' (first | with_reducible exact AllP.nil | with_reducible refine AllP.mk ?_ ?_ | with_reducible apply And.intro)) <;> skip; (iterate 2 (all_goals try (first | exact (c_impl_IsValidWorld x) | exact fun _ => (c_impl_ArchiveIsRecent x (by first | assumption | omega | (simp; done) | (simp; omega))))))) ?_
  refine W.cond rfl (fun hb0 => ?_) (fun hb0 => ?_)
  · have hh : (okW x && recent x) = false := or_no1 hb0 (by simp only [ite_tt, ite_ff, gt_iff_lt, ge_iff_le, not_dlt, not_dle, bne_not, deq, decide_not, ne_eq, Bool.not_and, Bool.not_or, Bool.not_not, Bool.and_true, Bool.true_and, Bool.or_false, Bool.false_or, Int.toNat_natCast] <;> first | rfl | ac_rfl)
    refine W.seq ?_
    refine W.reg X [] [] [2] [] rfl ⟨⟩ ?_
    refine W.ret ?_
    exact Fin.ret rfl ⟨by rw [audit, hh]; rfl, ⟨⟩⟩
  · have hh : (okW x && recent x) = true := or_yes hb0 (by simp only [ite_tt, ite_ff, gt_iff_lt, ge_iff_le, not_dlt, not_dle, bne_not, deq, decide_not, ne_eq, Bool.not_and, Bool.not_or, Bool.not_not, Bool.and_true, Bool.true_and, Bool.or_false, Bool.false_or, Int.toNat_natCast] <;> first | rfl | ac_rfl)
    refine W.skip ?_
    refine W.seq ?_
    refine W.seq ?_
    refine W.reg X [] [] [1, 14, 15] [] rfl ⟨⟩ ?_
    refine W.block ?_
    refine W.loopO (fun k => k ≤ x.devices.length ∧ (List.range k).all (auP x) = true) (fun k : Nat => [(15, .one (.a (.lit (.int .i64 k))))]) (fun k => []) (fun k => x.devices.length - k) 0 (fun k => rfl) ⟨Nat.zero_le _, rfl⟩ rfl ?_
    rintro k ⟨hk, hall⟩
    refine W.seq ?_
    refine W.reg X [] [] [1, 14, 15, 16] [] rfl ⟨⟩ ?_
    refine W.seq ?_
    refine W.cond rfl (fun hb1 => ?_) (fun hb1 => ?_)
    · try simp only [nb, inr_t, inr_f, isEmpty_t] at hb1
      refine W.skip ?_
      refine W.seq ?_
      refine W.block ?_
      refine W.seq ?_
      refine W.reg X [] [] [1, 3, 14, 15] [] rfl ⟨⟩ ?_
      refine W.seq ?_
      refine W.reg X [] [(20, ⟨false, [.a (.lit (.bool (inPre x (k : Int))))]⟩), (25, ⟨false, [.a (.lit (.bool (sentRecv x (k : Int))))]⟩)] [1, 14, 15, 27] [] rfl (by (repeat' (first | with_reducible exact AllP.nil | with_reducible refine AllP.mk ?_ ?_ | with_reducible apply And.intro)) <;> skip; (iterate 2 (all_goals try (first | exact (c_impl_InboxIsPrefix x (k : Int) (by first | assumption | omega | (simp; done) | (simp; omega))) | exact fun _ => (c_impl_SentIsReceived x (k : Int) (by first | assumption | omega | (simp; done) | (simp; omega))))))) ?_
      refine W.cond rfl (fun hb2 => ?_) (fun hb2 => ?_)
      · have hk2 : auP x k = false := or_no1 hb2 (by simp only [auP, ite_tt, ite_ff, gt_iff_lt, ge_iff_le, not_dlt, not_dle, bne_not, deq, decide_not, ne_eq, Bool.not_and, Bool.not_or, Bool.not_not, Bool.and_true, Bool.true_and, Bool.or_false, Bool.false_or, Int.toNat_natCast] <;> first | rfl | ac_rfl)
        refine W.seq ?_
        refine W.reg X [] [] [2] [] rfl ⟨⟩ ?_
        refine W.ret ?_
        exact Fin.ret rfl ⟨by rw [audit, range_no hb1 hk2]; simp, ⟨⟩⟩
      · have hk2 : auP x k = true := or_yes hb2 (by simp only [auP, ite_tt, ite_ff, gt_iff_lt, ge_iff_le, not_dlt, not_dle, bne_not, deq, decide_not, ne_eq, Bool.not_and, Bool.not_or, Bool.not_not, Bool.and_true, Bool.true_and, Bool.or_false, Bool.false_or, Int.toNat_natCast] <;> first | rfl | ac_rfl)
        refine W.skip ?_
        refine W.reg X [] [] [1, 14, 15] [] rfl ⟨⟩ ?_
        refine ⟨k + 1, ⟨by omega, range_all hall hk2⟩, by omega, ?_⟩
        rw [wadd _ k rfl (by omega)]
        try rfl
    · try simp only [nb, inr_t, inr_f, isEmpty_t] at hb1
      refine W.exit ?_
      refine W.seq ?_
      refine W.reg X [] [] [2] [] rfl ⟨⟩ ?_
      refine W.ret ?_
      exact Fin.ret rfl ⟨by rw [audit, hh, show x.devices.length = k by omega, hall]; rfl, ⟨⟩⟩
theorem c_spec_AuditWorld (x : Wld) (hsz : size_Wld x ≤ 1048576) : Sound ty Tryz.prog 24 [.agg (dec_Wld x)] [.a (.lit (.bool (audit x)))] := by
  refine Sound.of X Tryz.call24 Tryz.func24 rfl rfl (by decide) Tryz.ntmps24 (by simp) ?_
  intro zb
  have hd : x.devices.length ≤ 1048576 := dev_le hsz
  have hrl : x.archive.rounds.length ≤ 1048576 := rounds_le hsz
  refine W.seq ?_
  refine W.reg X [] [] [1] [] rfl ⟨⟩ ?_
  refine W.seq ?_
  refine W.seq ?_
  refine W.reg X [] [] [1, 3] [] rfl ⟨⟩ ?_
  refine W.block ?_
  refine W.loopO (fun k => k ≤ x.devices.length ∧ (List.range k).all (auP x) = true) (fun k : Nat => [(3, .one (.a (.lit (.int .i64 k))))]) (fun k => []) (fun k => x.devices.length - k) 0 (fun k => rfl) ⟨Nat.zero_le _, rfl⟩ rfl ?_
  rintro k ⟨hk, hall⟩
  refine W.seq ?_
  refine W.seq ?_
  refine W.reg X [] [] [1, 3, 8] [] rfl ⟨⟩ ?_
  refine W.cond rfl (fun hb0 => ?_) (fun hb0 => ?_)
  · try simp only [nb, inr_t, inr_f, isEmpty_t] at hb0
    refine W.skip ?_
    refine W.seq ?_
    refine W.block ?_
    refine W.seq ?_
    refine W.reg X [] [(13, ⟨false, [.a (.lit (.bool (inPre x (k : Int))))]⟩), (18, ⟨false, [.a (.lit (.bool (sentRecv x (k : Int))))]⟩)] [1, 3, 20] [] rfl (by (repeat' (first | with_reducible exact AllP.nil | with_reducible refine AllP.mk ?_ ?_ | with_reducible apply And.intro)) <;> skip; (iterate 2 (all_goals try (first | exact (c_spec_InboxIsPrefix x (k : Int) (by first | assumption | omega | (simp; done) | (simp; omega))) | exact fun _ => (c_spec_SentIsReceived x (k : Int) (by first | assumption | omega | (simp; done) | (simp; omega))))))) ?_
    refine W.cond rfl (fun hb1 => ?_) (fun hb1 => ?_)
    · have hk2 : auP x k = false := or_no1 hb1 (by simp only [auP, ite_tt, ite_ff, gt_iff_lt, ge_iff_le, not_dlt, not_dle, bne_not, deq, decide_not, ne_eq, Bool.not_and, Bool.not_or, Bool.not_not, Bool.and_true, Bool.true_and, Bool.or_false, Bool.false_or, Int.toNat_natCast] <;> first | rfl | ac_rfl)
      refine W.seq ?_
      refine W.reg X [] [] [2] [] rfl ⟨⟩ ?_
      refine W.ret ?_
      exact Fin.ret rfl ⟨by rw [audit, range_no hb0 hk2]; simp, ⟨⟩⟩
    · have hk2 : auP x k = true := or_yes hb1 (by simp only [auP, ite_tt, ite_ff, gt_iff_lt, ge_iff_le, not_dlt, not_dle, bne_not, deq, decide_not, ne_eq, Bool.not_and, Bool.not_or, Bool.not_not, Bool.and_true, Bool.true_and, Bool.or_false, Bool.false_or, Int.toNat_natCast] <;> first | rfl | ac_rfl)
      refine W.skip ?_
      refine W.reg X [] [] [1, 3] [] rfl ⟨⟩ ?_
      refine ⟨k + 1, ⟨by omega, range_all hall hk2⟩, by omega, ?_⟩
      rw [wadd _ k rfl (by omega)]
      try rfl
  · try simp only [nb, inr_t, inr_f, isEmpty_t] at hb0
    refine W.exit ?_
    refine W.seq ?_
    refine W.reg X [] [(22, ⟨false, [.a (.lit (.bool (okW x)))]⟩), (25, ⟨false, [.a (.lit (.bool (recent x)))]⟩)] [2] [] rfl (by (repeat' (first | with_reducible exact AllP.nil | with_reducible refine AllP.mk ?_ ?_ | with_reducible apply And.intro)) <;> skip; (iterate 2 (all_goals try (first | exact (c_spec_IsValidWorld x) | exact fun _ => (c_spec_ArchiveIsRecent x (by first | assumption | omega | (simp; done) | (simp; omega))))))) ?_
    refine W.ret ?_
    exact Fin.ret rfl ⟨by rw [audit, show x.devices.length = k by omega, hall]; exact (congrArg Value.bool (by simp only [ite_tt, ite_ff, gt_iff_lt, ge_iff_le, not_dlt, not_dle, bne_not, deq, decide_not, ne_eq, Bool.not_and, Bool.not_or, Bool.not_not, Bool.and_true, Bool.true_and, Bool.or_false, Bool.false_or, Int.toNat_natCast] <;> first | rfl | ac_rfl)), ⟨⟩⟩
end Go.Proofs.YtlocnjfgeifmnaaGreat.G
namespace Go.Proofs.YtlocnjfgeifmnaaGreat.G
set_option linter.all false
open Go.RowKit L D
set_option maxRecDepth 100000
theorem c_FnExactAuditWorld (x0 : Wld) (h_x0 : (wf_Wld) x0) : Sound ty Tryz.prog 5 [.agg (dec_Wld x0)] [.a (.lit (.bool true))] := by
  refine Sound.of X Tryz.call5 Tryz.func5 rfl rfl (by decide) Tryz.ntmps5 (by simp) ?_
  intro zb
  refine W.seq ?_
  refine W.reg X [] [] [1] [] rfl ⟨⟩ ?_
  refine W.seq ?_
  refine W.reg X [] [] [1, 3] [] rfl ⟨⟩ ?_
  refine W.seq ?_
  refine W.reg X [] [(9, ⟨false, [.a (.lit (.int .i64 (szr (1048576) (size_Wld x0))))]⟩)] [1, 3] [] rfl ⟨c_szWorld x0 (1048576) (by omega) (by omega), ⟨⟩⟩ ?_
  refine W.seq ?_
  refine W.seq ?_
  refine W.reg X [] [] [1, 11] [] rfl ⟨⟩ ?_
  refine W.cond rfl (fun hb0 => ?_) (fun hb0 => ?_)
  · try simp only [nb] at hb0
    refine W.seq ?_
    refine W.reg X [] [] [2] [] rfl ⟨⟩ ?_
    refine W.ret ?_
    exact Fin.ret rfl ⟨rfl, ⟨⟩⟩
  · try simp only [nb] at hb0
    obtain ⟨e0, e0'⟩ := szr_pos hb0
    rw [e0]
    have hsz : size_Wld x0 ≤ 1048576 := by omega
    have hmx := mnv_le_Wld x0
    have hdev := dev_le hsz
    have hsrv := srv_le hsz
    refine W.skip ?_
    refine W.seq ?_
    refine W.reg X [(13, 225)] [(13, ⟨true, [.agg (dec_Wld x0)]⟩), (14, ⟨false, [.a (.lit (.bool (audit x0)))]⟩)] [1, 4] [] rfl ⟨c_spec_AuditWorld x0 hsz, c_toWorld x0 (by omega), ⟨⟩⟩ ?_
    refine W.seq ?_
    refine W.reg X [(16, 275)] [(16, ⟨true, [.agg (dec_Wld x0)]⟩)] [1, 4, 5] [] rfl ⟨c_toWorld x0 (by omega), ⟨⟩⟩ ?_
    refine W.seq ?_
    refine W.reg X [] [(18, ⟨false, [.a (.lit (.bool (audit x0)))]⟩)] [1, 4, 5, 6] [] rfl ⟨c_impl_AuditWorld x0 hsz, ⟨⟩⟩ ?_
    refine W.seq ?_
    refine W.seq ?_
    refine W.reg X [] [] [1, 5, 21] [] rfl ⟨⟩ ?_
    refine W.cond rfl (fun hb1 => ?_) (fun hb1 => ?_)
    · exact absurd hb1 (by first | (simp; done) | (simp; omega))
    · clear hb1
      refine W.skip ?_
      refine W.seq ?_
      refine W.seq ?_
      refine W.draw X [(24, 325)] [(24, ⟨true, [.agg (dec_Wld x0)]⟩), (25, ⟨false, [.a (.lit (.bool true))]⟩)] [26] [] 5 MO (by kernel_rfl) rfl ⟨c_eqWorld x0, c_toWorld x0 (by omega), ⟨⟩⟩ ?_
      refine W.cond rfl (fun hb2 => ?_) (fun hb2 => ?_)
      · exact absurd hb2 (by first | (simp; done) | (simp; omega))
      · clear hb2
        refine W.skip ?_
        refine W.seq ?_
        refine W.reg X [] [] [2] [] rfl ⟨⟩ ?_
        refine W.ret ?_
        exact Fin.ret rfl ⟨rfl, ⟨⟩⟩
end Go.Proofs.YtlocnjfgeifmnaaGreat.G
