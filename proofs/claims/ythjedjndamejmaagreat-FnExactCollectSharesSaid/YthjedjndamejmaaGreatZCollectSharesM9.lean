/-
  Writes in shares.
-/
import Derived.Test.YthjedjndamejmaaGreatZCollectSharesM8
import Derived.ProofKit
import Derived.Lib.AppendZeros
import Derived.Test.YthjedjndamejmaaGreatZCollectSharesM7
namespace Go.Proofs.YthjedjndamejmaaGreat.G
set_option linter.all false
open Go.RowKit L D
set_option maxRecDepth 100000
theorem grow_ret {w w' : World} {t : Tag} {g n : Nat} {c : Array Value} (hg : g = w.heap.size) (hb : Below w.heap.size w w') (hc : w'.heap[g]? = some (.cells c (ty t) (0, 0))) (hs : c.size = n * kk t) (hn : n ≤ maxLen) :
    Ret ty w [.a (.sl t [])] (.returned (.slice (some ⟨g, 0, none⟩) 0 n)) w' := by
  have hown : Own w.heap.size w' (g :: ([] : List (List Nat)).flatten) := ⟨by simp, fun b hbm => by simp at hbm; omega, fun b hbm => by simp at hbm; subst hbm; exact ⟨_, _, hc⟩⟩
  have hp : Part (kk t) (rd t) w.heap.size (ty t) w' g n ([] : List (T t)) [] := ⟨⟨c, hc, hs⟩, ⟨rfl, by simp⟩, hown, hn⟩
  have hB := Part.bld (fine t) hp (Nat.zero_le _)
  exact ⟨_, _, rfl, hb, hown, _, [], hB, rfl, by simp⟩
theorem nil_ret {w : World} {t : Tag} : Ret ty w [.a (.sl t [])] (.returned nilv) w := by
  refine ⟨_, [], rfl, Below.refl _ _, Own.nil _ _, [], [], ⟨[], [], ?_, rfl, by simp, rfl, Own.nil _ _⟩, rfl, rfl⟩
  exact ⟨by simp, Or.inl ⟨rfl, rfl⟩⟩
theorem Grow_int (w : World) (n : Nat) (h1 : n ≤ 1099511627776) : Calls Tryz.prog 196 #[nilv, .int .i64 n] w (Ret ty w [.a (.sl .int [])]) := by
  have hEl : El Tryz.prog ty .int := El_all _ (by decide)
  cases hq : Tryz.prog.info? (ty .int) with
  | none => simp [El, hq] at hEl
  | some inf =>
    simp [El, hq] at hEl
    obtain ⟨z1, z2, z3⟩ := hEl
    by_cases h0 : n = 0
    · subst h0
      go_enter Tryz.func196, Tryz.ntmps196
      go_wp2
      go_ret
      exact nil_ret
    · have hsz : inf.size = 1 := z2
      have hby : inf.bytes ≤ 8 := by rw [z3]; decide
      have hmul : n * inf.bytes ≤ 8796093022208 := Nat.le_trans (Nat.mul_le_mul (show n ≤ 1099511627776 from h1) hby) (by decide)
      have hrun := Lib.run_append_nil_zeros (P := Tryz.prog) w 27 3 27 (ty .int) inf (zval .int) .i64 .i64 (X.kind 27).1 (X.kind 3) hq z1 n (by omega) (by omega) (by omega) (by omega)
      have hge := grownCap_ge w n 0 (ty .int)
      have hmx := grownCap_le_maxLen w n 0 (ty .int) (by unfold maxLen; omega)
      generalize grownCap w n 0 (ty .int) = g at hrun hge hmx
      go_enter Tryz.func196, Tryz.ntmps196
      go_wp2_with (at_builtin; refine Lib.wpList_append_run _ rfl _ _ _ _ rfl _ _ rfl rfl _ _ hrun ?_)
      go_ret
      refine grow_ret (t := .int) rfl ((Below.refl _ _).drew.alloc (Nat.le_refl _) _) (alloc_top rfl) ?_ hmx
      rw [Array.size_append, size_zeroCells, size_zeroCells, ← Nat.add_mul, show n + (g - n) = g by omega]
      rfl
theorem c_slices_Grow_int_int (n : Nat) (h1 : n ≤ 1099511627776) : Sound ty Tryz.prog 196 [.a (.lit nilv), .a (.lit (.int .i64 n))] [.a (.sl .int [])] := by
  refine ⟨fun args w => Tryz.call196 args w, fun w us _ ha => ?_⟩
  match us, ha with
  | [u1, u2], ⟨⟨_, e1⟩, ⟨_, e2⟩, _⟩ =>
    obtain ⟨e1, _⟩ := e1
    obtain ⟨e2, _⟩ := e2
    rw [e1, e2]
    exact Grow_int w n h1

end Go.Proofs.YthjedjndamejmaaGreat.G
namespace Go.Proofs.YthjedjndamejmaaGreat.G
set_option linter.all false
open Go.RowKit L D
set_option maxRecDepth 100000
theorem c_impl_InRange (x lo hi : Int) : Sound ty Tryz.prog 78 [.a (.lit (.int .i64 x)), .a (.lit (.int .i64 lo)), .a (.lit (.int .i64 hi))] [.a (.lit (.bool (inr x lo hi)))] := by
  refine Sound.of X Tryz.call78 Tryz.func78 rfl rfl (by decide) Tryz.ntmps78 (by simp) ?_
  intro zb
  refine W.seq ?_
  refine W.reg X [] [] [0, 1, 2] [] rfl ⟨⟩ ?_
  refine W.seq ?_
  refine W.reg X [] [] [6] [] rfl ⟨⟩ ?_
  refine W.ret ?_
  exact Fin.ret rfl ⟨rfl, ⟨⟩⟩
theorem c_spec_l1In (x lo hi : Int) : Sound ty Tryz.prog 57 [.a (.lit (.int .i64 x)), .a (.lit (.int .i64 lo)), .a (.lit (.int .i64 hi))] [.a (.lit (.bool (inr x lo hi)))] := by
  refine Sound.of X Tryz.call57 Tryz.func57 rfl rfl (by decide) Tryz.ntmps57 (by simp) ?_
  intro zb
  refine W.seq ?_
  refine W.reg X [] [] [0, 1, 2] [] rfl ⟨⟩ ?_
  refine W.seq ?_
  refine W.reg X [] [] [6] [] rfl ⟨⟩ ?_
  refine W.ret ?_
  exact Fin.ret rfl ⟨rfl, ⟨⟩⟩
theorem c_impl_Mod (p q : Int) (h1 : 1 ≤ q) (h2 : q ≤ 1000000000000) : Sound ty Tryz.prog 194 [.a (.lit (.int .i64 p)), .a (.lit (.int .i64 q))] [.a (.lit (.int .i64 (p % q)))] := by
  refine Sound.of X Tryz.call194 Tryz.func194 rfl rfl (by decide) Tryz.ntmps194 (by simp) ?_
  intro zb
  refine W.seq ?_
  refine W.reg X [] [] [0, 1] [] rfl ⟨⟩ ?_
  refine W.seq ?_
  refine W.seq ?_
  refine W.reg X [] [(6, ⟨false, [.a (.lit (.bool _))]⟩)] [0, 1, 7] [] rfl (by (repeat' (first | with_reducible exact AllP.nil | with_reducible refine AllP.mk ?_ ?_ | with_reducible apply And.intro)) <;> skip; (iterate 1 (all_goals try (first | exact (c_impl_InRange _ _ _))))) ?_
  refine W.cond rfl (fun hb0 => ?_) (fun hb0 => ?_)
  · try simp only [nb, inr_t, inr_f, isEmpty_t] at hb0
    omega
  · try simp only [nb, inr_t, inr_f, isEmpty_t] at hb0
    refine W.skip ?_
    refine W.seq ?_
    refine W.reg X [] [] [4] [] rfl (by (repeat' (first | exact True.intro | apply And.intro)) <;> first | (intros; omega)) ?_
    refine W.ret ?_
    exact Fin.ret rfl ⟨by rw [md_eq p q h1 h2], ⟨⟩⟩
theorem c_impl_Hash (l : List Int) (hl : l.length ≤ 16777216) : Sound ty Tryz.prog 148 [.a (.sl .int l)] [.a (.lit (.int .i64 (hsh l)))] := by
  refine Sound.of X Tryz.call148 Tryz.func148 rfl rfl (by decide) Tryz.ntmps148 (by simp) ?_
  intro zb
  refine W.seq ?_
  refine W.reg X [] [] [0] [] rfl ⟨⟩ ?_
  refine W.seq ?_
  refine W.reg X [] [] [0, 3] [] rfl ⟨⟩ ?_
  refine W.seq ?_
  refine W.seq ?_
  refine W.reg X [] [] [3, 6, 7, 8] [] rfl ⟨⟩ ?_
  refine W.block ?_
  refine W.loopO (fun k => k ≤ l.length) (fun k : Nat => [(3, .one (.a (.lit (.int .i64 (hsh (l.take k)))))), (8, .one (.a (.lit (.int .i64 k))))]) (fun k => []) (fun k => l.length - k) 0 (fun k => rfl) (Nat.zero_le _) rfl ?_
  intro k hk
  refine W.seq ?_
  refine W.reg X [] [] [3, 6, 7, 8, 9] [] rfl ⟨⟩ ?_
  refine W.seq ?_
  refine W.cond rfl (fun hb0 => ?_) (fun hb0 => ?_)
  · try simp only [nb, inr_t, inr_f, isEmpty_t] at hb0
    have hs := hsh_step l k hb0
    refine W.skip ?_
    refine W.seq ?_
    refine W.block ?_
    refine W.seq ?_
    refine W.reg X [] [] [3, 5, 6, 7, 8] [] rfl (by (repeat' (first | exact True.intro | apply And.intro)) <;> first | (intros; omega)) ?_
    refine W.reg X [] [(15, ⟨false, [.a (.lit (.int .i64 _))]⟩)] [3, 6, 7, 8] [] rfl (by (repeat' (first | with_reducible exact AllP.nil | with_reducible refine AllP.mk ?_ ?_ | with_reducible apply And.intro)) <;> skip; (iterate 1 (all_goals try (first | exact (c_impl_Mod _ _ (by first | assumption | omega | (simp; done) | (simp; omega)) (by first | assumption | omega | (simp; done) | (simp; omega)))))); all_goals (first | (intros; omega))) ?_
    refine W.reg X [] [] [3, 6, 7, 8] [] rfl ⟨⟩ ?_
    refine ⟨k + 1, by omega, by omega, ?_⟩
    rw [wadd _ k rfl (by omega), hs]
    try rfl
  · try simp only [nb, inr_t, inr_f, isEmpty_t] at hb0
    refine W.exit ?_
    refine W.seq ?_
    refine W.reg X [] [] [2] [] rfl ⟨⟩ ?_
    refine W.ret ?_
    exact Fin.ret rfl ⟨by rw [List.take_of_length_le hb0], ⟨⟩⟩
theorem c_spec_Mod (p q : Int) (h1 : 1 ≤ q) (h2 : q ≤ 1000000000000) : Sound ty Tryz.prog 177 [.a (.lit (.int .i64 p)), .a (.lit (.int .i64 q))] [.a (.lit (.int .i64 (p % q)))] := by
  refine Sound.of X Tryz.call177 Tryz.func177 rfl rfl (by decide) Tryz.ntmps177 (by simp) ?_
  intro zb
  refine W.seq ?_
  refine W.reg X [] [] [0, 1] [] rfl ⟨⟩ ?_
  refine W.seq ?_
  refine W.seq ?_
  refine W.reg X [] [(6, ⟨false, [.a (.lit (.bool _))]⟩)] [0, 1, 7] [] rfl (by (repeat' (first | with_reducible exact AllP.nil | with_reducible refine AllP.mk ?_ ?_ | with_reducible apply And.intro)) <;> skip; (iterate 1 (all_goals try (first | exact (c_spec_l1In _ _ _))))) ?_
  refine W.cond rfl (fun hb0 => ?_) (fun hb0 => ?_)
  · try simp only [nb, inr_t, inr_f, isEmpty_t] at hb0
    omega
  · try simp only [nb, inr_t, inr_f, isEmpty_t] at hb0
    refine W.skip ?_
    refine W.seq ?_
    refine W.reg X [] [] [4] [] rfl (by (repeat' (first | exact True.intro | apply And.intro)) <;> first | (intros; omega)) ?_
    refine W.ret ?_
    exact Fin.ret rfl ⟨by rw [md_eq p q h1 h2], ⟨⟩⟩
theorem c_spec_Hash (l : List Int) (hl : l.length ≤ 16777216) : Sound ty Tryz.prog 128 [.a (.sl .int l)] [.a (.lit (.int .i64 (hsh l)))] := by
  refine Sound.of X Tryz.call128 Tryz.func128 rfl rfl (by decide) Tryz.ntmps128 (by simp) ?_
  intro zb
  refine W.seq ?_
  refine W.reg X [] [] [0] [] rfl ⟨⟩ ?_
  refine W.seq ?_
  refine W.reg X [] [] [0, 3] [] rfl ⟨⟩ ?_
  refine W.seq ?_
  refine W.seq ?_
  refine W.reg X [] [] [0, 3, 4] [] rfl ⟨⟩ ?_
  refine W.block ?_
  refine W.loopO (fun k => k ≤ l.length) (fun k : Nat => [(3, .one (.a (.lit (.int .i64 (hsh (l.take k)))))), (4, .one (.a (.lit (.int .i64 k))))]) (fun k => []) (fun k => l.length - k) 0 (fun k => rfl) (Nat.zero_le _) rfl ?_
  intro k hk
  refine W.seq ?_
  refine W.seq ?_
  refine W.reg X [] [] [0, 3, 4, 8] [] rfl ⟨⟩ ?_
  refine W.cond rfl (fun hb0 => ?_) (fun hb0 => ?_)
  · try simp only [nb, inr_t, inr_f, isEmpty_t] at hb0
    have hs := hsh_step l k hb0
    refine W.skip ?_
    refine W.seq ?_
    refine W.block ?_
    refine W.reg X [] [(17, ⟨false, [.a (.lit (.int .i64 _))]⟩)] [0, 3, 4] [] rfl (by (repeat' (first | with_reducible exact AllP.nil | with_reducible refine AllP.mk ?_ ?_ | with_reducible apply And.intro)) <;> skip; (iterate 1 (all_goals try (first | exact (c_spec_Mod _ _ (by first | assumption | omega | (simp; done) | (simp; omega)) (by first | assumption | omega | (simp; done) | (simp; omega)))))); all_goals (first | (intros; omega))) ?_
    refine W.reg X [] [] [0, 3, 4] [] rfl ⟨⟩ ?_
    refine ⟨k + 1, by omega, by omega, ?_⟩
    rw [wadd _ k rfl (by omega), hs]
    try rfl
  · try simp only [nb, inr_t, inr_f, isEmpty_t] at hb0
    refine W.exit ?_
    refine W.seq ?_
    refine W.reg X [] [] [2] [] rfl ⟨⟩ ?_
    refine W.ret ?_
    exact Fin.ret rfl ⟨by rw [List.take_of_length_le hb0], ⟨⟩⟩
theorem c_slices_Concat_int_int (l : List (List Int)) (hl : l.length ≤ 1048576) (hs0 : (l.map List.length).sum ≤ 1099511627776) : Sound ty Tryz.prog 150 [.a (.sl (.sl .int) l)] [.a (.sl .int l.flatten)] := by
  refine Sound.of X Tryz.call150 Tryz.func150 rfl rfl (by decide) Tryz.ntmps150 (by simp) ?_
  intro zb
  refine W.seq ?_
  refine W.reg X [] [] [0] [] rfl ⟨⟩ ?_
  refine W.seq ?_
  refine W.reg X [] [] [0, 3] [] rfl ⟨⟩ ?_
  refine W.seq ?_
  refine W.seq ?_
  refine W.reg X [] [] [0, 3, 9, 10, 11] [] rfl ⟨⟩ ?_
  refine W.block ?_
  refine W.loopO (fun k => k ≤ l.length) (fun k : Nat => [(3, .one (.a (.lit (.int .i64 ((l.take k).map List.length).sum)))), (11, .one (.a (.lit (.int .i64 k))))]) (fun k => []) (fun k => l.length - k) 0 (fun k => rfl) (Nat.zero_le _) rfl ?_
  intro k hk
  have hle := take_sum_le l List.length k
  refine W.seq ?_
  refine W.reg X [] [] [0, 3, 9, 10, 11, 12] [] rfl ⟨⟩ ?_
  refine W.seq ?_
  refine W.cond rfl (fun hb0 => ?_) (fun hb0 => ?_)
  · try simp only [nb, inr_t, inr_f, isEmpty_t] at hb0
    have hs := lensum_step l (dfl (.sl .int)) k hb0
    have hle2 := take_sum_le l List.length (k + 1)
    rw [hs] at hle2
    refine W.skip ?_
    refine W.seq ?_
    refine W.block ?_
    refine W.seq ?_
    refine W.reg X [] [] [0, 3, 5, 9, 10, 11] [] rfl (by (repeat' (first | exact True.intro | apply And.intro)) <;> first | (intros; omega)) ?_
    refine W.seq ?_
    refine W.reg X [] [] [0, 3, 9, 10, 11] [] rfl (by (repeat' (first | exact True.intro | apply And.intro))) ?_
    refine W.seq ?_
    refine W.reg X [] [] [0, 3, 9, 10, 11, 20] [] rfl ⟨⟩ ?_
    refine W.cond rfl (fun hb1 => ?_) (fun hb1 => ?_)
    · try simp only [nb, inr_t, inr_f, isEmpty_t] at hb1
      rw [i64w (by omega)] at hb1
      omega
    · try simp only [nb, inr_t, inr_f, isEmpty_t] at hb1
      refine W.skip ?_
      refine W.reg X [] [] [0, 3, 9, 10, 11] [] rfl ⟨⟩ ?_
      refine ⟨k + 1, by omega, by omega, ?_⟩
      rw [wadd _ k rfl (by omega), hs]
      rw [i64w (by simp only [Int.toNat_natCast]; omega)]
      try rfl
  · try simp only [nb, inr_t, inr_f, isEmpty_t] at hb0
    rw [List.take_of_length_le hb0]
    refine W.exit ?_
    refine W.seq ?_
    refine W.reg X [] [(24, ⟨true, [.a (.sl .int [])]⟩), (300024, ⟨true, []⟩)] [0, 6] [] rfl (by (repeat' (first | with_reducible exact AllP.nil | with_reducible refine AllP.mk ?_ ?_ | with_reducible apply And.intro)) <;> skip; (iterate 1 (all_goals try (first | exact (c_slices_Grow_int_int _ hs0))))) ?_
    refine W.seq ?_
    refine W.seq ?_
    refine W.reg X [] [] [6, 25, 26, 27] [] rfl ⟨⟩ ?_
    refine W.block ?_
    refine W.loopO (fun k1 => k1 ≤ l.length) (fun k1 : Nat => [(27, .one (.a (.lit (.int .i64 k1))))]) (fun k1 => [(24, .arr .int (l.take k1).flatten)]) (fun k1 => l.length - k1) 0 (fun k1 => rfl) (Nat.zero_le _) rfl ?_
    intro k1 hk1
    have hle1 := flatten_len l k1
    refine W.seq ?_
    refine W.reg X [] [] [6, 25, 26, 27, 28] [] rfl ⟨⟩ ?_
    refine W.seq ?_
    refine W.cond rfl (fun hb2 => ?_) (fun hb2 => ?_)
    · try simp only [nb, inr_t, inr_f, isEmpty_t] at hb2
      have hs1 := flatten_step l (dfl (.sl .int)) k1 hb2
      have hle2 := flatten_len l (k1 + 1)
      rw [hs1, List.length_append] at hle2
      refine W.skip ?_
      refine W.seq ?_
      refine W.block ?_
      refine W.seq ?_
      refine W.reg X [] [] [6, 8, 25, 26, 27] [] rfl (by (repeat' (first | exact True.intro | apply And.intro)) <;> first | (intros; omega)) ?_
      refine W.reg X [(33, 24)] [] [6, 25, 26, 27] [] rfl (by (repeat' (first | exact True.intro | apply And.intro)) <;> first | exact rfl | (simp only [byt, maxLen, lens]; omega)) ?_
      refine W.reg X [] [] [6, 25, 26, 27] [] rfl ⟨⟩ ?_
      refine ⟨k1 + 1, by omega, by omega, ?_⟩
      rw [wadd _ k1 rfl (by omega), hs1]
      try rfl
    · try simp only [nb, inr_t, inr_f, isEmpty_t] at hb2
      refine W.exit ?_
      refine W.seq ?_
      refine W.reg X [] [] [2] [] rfl ⟨⟩ ?_
      refine W.ret ?_
      exact Fin.ret rfl ⟨by rw [List.take_of_length_le hb2], ⟨⟩⟩
theorem c_impl_KeyedHash (k : Int) (l : List Int) (hl : l.length ≤ 1048576) : Sound ty Tryz.prog 98 [.a (.lit (.int .i64 k)), .a (.sl .int l)] [.a (.lit (.int .i64 (kh k l)))] := by
  refine Sound.of X Tryz.call98 Tryz.func98 rfl rfl (by decide) Tryz.ntmps98 (by simp) ?_
  intro zb
  refine W.seq ?_
  refine W.reg X [] [] [0, 1] [] rfl ⟨⟩ ?_
  refine W.seq ?_
  refine W.reg X [] [(11, ⟨true, [.a (.sl .int [[k], l, [k]].flatten)]⟩), (12, ⟨false, [.a (.lit (.int .i64 (hsh [[k], l, [k]].flatten)))]⟩)] [4] [] rfl (by (repeat' (first | with_reducible exact AllP.nil | with_reducible refine AllP.mk ?_ ?_ | with_reducible apply And.intro)) <;> skip; (iterate 2 (all_goals try (first | exact (c_slices_Concat_int_int _ (by simp) (by simp; omega)) | exact (c_impl_Hash _ (by simp; omega))))); all_goals (first | exact rfl | exact ⟨rfl, El_all _ (by decide)⟩)) ?_
  refine W.ret ?_
  exact Fin.ret rfl ⟨rfl, ⟨⟩⟩
theorem c_spec_KeyedHash (k : Int) (l : List Int) (hl : l.length ≤ 1048576) : Sound ty Tryz.prog 74 [.a (.lit (.int .i64 k)), .a (.sl .int l)] [.a (.lit (.int .i64 (kh k l)))] := by
  refine Sound.of X Tryz.call74 Tryz.func74 rfl rfl (by decide) Tryz.ntmps74 (by simp) ?_
  intro zb
  refine W.seq ?_
  refine W.reg X [] [] [0, 1] [] rfl ⟨⟩ ?_
  refine W.seq ?_
  refine W.reg X [(8, 6), (11, 6)] [(12, ⟨false, [.a (.lit (.int .i64 (hsh ([k] ++ l ++ [k]))))]⟩)] [4] [] rfl (by (repeat' (first | with_reducible exact AllP.nil | with_reducible refine AllP.mk ?_ ?_ | with_reducible apply And.intro)) <;> skip; (iterate 1 (all_goals try (first | exact (c_spec_Hash _ (by simp; omega))))); all_goals (first | exact rfl | exact ⟨rfl, El_all _ (by decide)⟩ | (simp only [byt, maxLen, lens]; omega))) ?_
  refine W.ret ?_
  exact Fin.ret rfl ⟨rfl, ⟨⟩⟩
theorem c_impl_orOne (n : Int) : Sound ty Tryz.prog 97 [.a (.lit (.int .i64 n))] [.a (.lit (.int .i64 (or1 n)))] := by
  refine Sound.of X Tryz.call97 Tryz.func97 rfl rfl (by decide) Tryz.ntmps97 (by simp) ?_
  intro zb
  refine W.seq ?_
  refine W.reg X [] [] [0] [] rfl ⟨⟩ ?_
  refine W.seq ?_
  refine W.seq ?_
  refine W.reg X [] [] [0, 4] [] rfl ⟨⟩ ?_
  refine W.cond rfl (fun hb0 => ?_) (fun hb0 => ?_)
  · try simp only [nb, inr_t, inr_f, isEmpty_t] at hb0
    refine W.seq ?_
    refine W.reg X [] [] [2] [] rfl ⟨⟩ ?_
    refine W.ret ?_
    exact Fin.ret rfl ⟨by rw [or1, if_pos hb0], ⟨⟩⟩
  · try simp only [nb, inr_t, inr_f, isEmpty_t] at hb0
    refine W.skip ?_
    refine W.seq ?_
    refine W.reg X [] [] [2] [] rfl ⟨⟩ ?_
    refine W.ret ?_
    exact Fin.ret rfl ⟨by rw [or1, if_neg (by simpa using hb0)], ⟨⟩⟩
theorem c_spec_Max (a b : Int) : Sound ty Tryz.prog 73 [.a (.lit (.int .i64 a)), .a (.lit (.int .i64 b))] [.a (.lit (.int .i64 (if b > a then b else a)))] := by
  refine Sound.of X Tryz.call73 Tryz.func73 rfl rfl (by decide) Tryz.ntmps73 (by simp) ?_
  intro zb
  refine W.seq ?_
  refine W.reg X [] [] [0, 1] [] rfl ⟨⟩ ?_
  refine W.seq ?_
  refine W.seq ?_
  refine W.reg X [] [] [0, 1, 7] [] rfl ⟨⟩ ?_
  refine W.cond rfl (fun hb0 => ?_) (fun hb0 => ?_)
  · try simp only [nb, inr_t, inr_f, isEmpty_t] at hb0
    refine W.seq ?_
    refine W.reg X [] [] [4] [] rfl ⟨⟩ ?_
    refine W.ret ?_
    exact Fin.ret rfl ⟨by rw [if_pos (by omega)], ⟨⟩⟩
  · try simp only [nb, inr_t, inr_f, isEmpty_t] at hb0
    refine W.skip ?_
    refine W.seq ?_
    refine W.reg X [] [] [4] [] rfl ⟨⟩ ?_
    refine W.ret ?_
    exact Fin.ret rfl ⟨by rw [if_neg (by omega)], ⟨⟩⟩
theorem c_impl_ChildSeed (s k : Int) : Sound ty Tryz.prog 186 [.a (.lit (.int .i64 s)), .a (.lit (.int .i64 k))] [.a (.lit (.int .i64 (cs s k)))] := by
  refine Sound.of X Tryz.call186 Tryz.func186 rfl rfl (by decide) Tryz.ntmps186 (by simp) ?_
  intro zb
  refine W.seq ?_
  refine W.reg X [] [] [0, 1] [] rfl ⟨⟩ ?_
  refine W.seq ?_
  refine W.reg X [] [(9, ⟨false, [.a (.lit (.int .i64 _))]⟩)] [5] [] rfl (by (repeat' (first | with_reducible exact AllP.nil | with_reducible refine AllP.mk ?_ ?_ | with_reducible apply And.intro)) <;> skip; (iterate 1 (all_goals try (first | exact (c_impl_KeyedHash _ _ (by first | assumption | omega | (simp; done) | (simp; omega)))))); all_goals (first | exact ⟨rfl, El_all _ (by decide)⟩)) ?_
  refine W.seq ?_
  refine W.reg X [] [] [4] [] rfl (by (repeat' (first | exact True.intro | apply And.intro)) <;> first | (intros; omega)) ?_
  refine W.ret ?_
  exact Fin.ret rfl ⟨by rw [cs_eq (kh_range _ _).1 (kh_range _ _).2]; rfl, ⟨⟩⟩
theorem c_impl_StreamBytes (s n : Int) (h0 : 0 ≤ n) (h1 : n ≤ 400) : Sound ty Tryz.prog 143 [.a (.lit (.int .i64 s)), .a (.lit (.int .i64 n))] [.a (.sl .u8 (stream s n.toNat))] := by
  refine Sound.of X Tryz.call143 Tryz.func143 rfl rfl (by decide) Tryz.ntmps143 (by simp) ?_
  intro zb
  refine W.seq ?_
  refine W.reg X [] [] [0, 1] [] rfl ⟨⟩ ?_
  refine W.seq ?_
  refine W.seq ?_
  refine W.reg X [] [(8, ⟨false, [.a (.lit (.bool _))]⟩)] [0, 1, 9] [] rfl (by (repeat' (first | with_reducible exact AllP.nil | with_reducible refine AllP.mk ?_ ?_ | with_reducible apply And.intro)) <;> skip; (iterate 1 (all_goals try (first | exact (c_impl_InRange _ _ _))))) ?_
  refine W.cond rfl (fun hb0 => ?_) (fun hb0 => ?_)
  · try simp only [nb, inr_t, inr_f, isEmpty_t] at hb0
    omega
  · try simp only [nb, inr_t, inr_f, isEmpty_t] at hb0
    refine W.skip ?_
    refine W.seq ?_
    refine W.reg X [] [] [0, 1, 5] [] rfl (by (repeat' (first | exact True.intro | apply And.intro)) <;> first | exact rfl) ?_
    refine W.seq ?_
    refine W.seq ?_
    refine W.reg X [] [] [0, 5, 11, 12] [] rfl ⟨⟩ ?_
    refine W.block ?_
    refine W.loopO (fun k => k ≤ n.toNat) (fun k : Nat => [(12, .one (.a (.lit (.int .i64 k))))]) (fun k => [(10, .arr .u8 (stream s k))]) (fun k => n.toNat - k) 0 (fun k => rfl) (Nat.zero_le _) rfl ?_
    intro k hk
    have hle := stream_len s k
    refine W.seq ?_
    refine W.reg X [] [] [0, 5, 11, 12, 13] [] rfl ⟨⟩ ?_
    refine W.seq ?_
    refine W.cond rfl (fun hb1 => ?_) (fun hb1 => ?_)
    · try simp only [nb, inr_t, inr_f, isEmpty_t] at hb1
      have hs := stream_step s k (by omega)
      refine W.skip ?_
      refine W.seq ?_
      refine W.block ?_
      refine W.seq ?_
      refine W.reg X [] [] [0, 5, 6, 11, 12] [] rfl ⟨⟩ ?_
      refine W.reg X [(23, 10)] [(19, ⟨false, [.a (.lit (.int .i64 _))]⟩)] [0, 5, 11, 12] [] rfl (by (repeat' (first | with_reducible exact AllP.nil | with_reducible refine AllP.mk ?_ ?_ | with_reducible apply And.intro)) <;> skip; (iterate 1 (all_goals try (first | exact (c_impl_ChildSeed _ _)))); all_goals (first | (intros; omega) | exact rfl | exact ⟨rfl, El_all _ (by decide)⟩ | exact (u8w _).1 | exact (u8w _).2 | (simp only [byt, maxLen, lens]; omega))) ?_
      refine W.reg X [] [] [0, 5, 11, 12] [] rfl ⟨⟩ ?_
      refine ⟨k + 1, by omega, by omega, ?_⟩
      rw [wadd _ k rfl (by omega), hs]
      try rfl
    · try simp only [nb, inr_t, inr_f, isEmpty_t] at hb1
      refine W.exit ?_
      refine W.seq ?_
      refine W.reg X [] [] [4] [] rfl ⟨⟩ ?_
      refine W.ret ?_
      exact Fin.ret rfl ⟨by rw [show k = n.toNat by omega], ⟨⟩⟩
theorem c_impl_BytesToInts (l : List UInt8) (hl : l.length ≤ 1048576) : Sound ty Tryz.prog 195 [.a (.sl .u8 l)] [.a (.sl .int (b2i l))] := by
  refine Sound.of X Tryz.call195 Tryz.func195 rfl rfl (by decide) Tryz.ntmps195 (by simp) ?_
  intro zb
  refine W.seq ?_
  refine W.reg X [] [] [0] [] rfl ⟨⟩ ?_
  refine W.seq ?_
  refine W.reg X [] [] [0, 3] [] rfl (by (repeat' (first | exact True.intro | apply And.intro)) <;> first | exact rfl) ?_
  refine W.seq ?_
  refine W.seq ?_
  refine W.reg X [] [] [3, 9, 10, 11] [] rfl ⟨⟩ ?_
  refine W.block ?_
  refine W.loopO (fun k => k ≤ l.length) (fun k : Nat => [(11, .one (.a (.lit (.int .i64 k))))]) (fun k => [(8, .arr .int ((l.length : Int) :: (l.take k).map (fun c => (c.toNat : Int))))]) (fun k => l.length - k) 0 (fun k => rfl) (Nat.zero_le _) rfl ?_
  intro k hk
  refine W.seq ?_
  refine W.reg X [] [] [3, 9, 10, 11, 12] [] rfl ⟨⟩ ?_
  refine W.seq ?_
  refine W.cond rfl (fun hb0 => ?_) (fun hb0 => ?_)
  · try simp only [nb, inr_t, inr_f, isEmpty_t] at hb0
    have hs := b2i_step l k hb0
    refine W.skip ?_
    refine W.seq ?_
    refine W.block ?_
    refine W.seq ?_
    refine W.reg X [] [] [3, 5, 9, 10, 11] [] rfl (by (repeat' (first | exact True.intro | apply And.intro)) <;> first | (intros; omega)) ?_
    refine W.reg X [(19, 8)] [] [3, 9, 10, 11] [] rfl (by (repeat' (first | exact True.intro | apply And.intro)) <;> first | exact rfl | (simp only [byt, maxLen, lens]; omega)) ?_
    refine W.reg X [] [] [3, 9, 10, 11] [] rfl ⟨⟩ ?_
    refine ⟨k + 1, by omega, by omega, ?_⟩
    rw [wadd _ k rfl (by omega), hs]
    try rfl
  · try simp only [nb, inr_t, inr_f, isEmpty_t] at hb0
    refine W.exit ?_
    refine W.seq ?_
    refine W.reg X [] [] [2] [] rfl ⟨⟩ ?_
    refine W.ret ?_
    exact Fin.ret rfl ⟨by rw [List.take_of_length_le hb0]; rfl, ⟨⟩⟩
theorem c_spec_ChildSeed (s k : Int) : Sound ty Tryz.prog 173 [.a (.lit (.int .i64 s)), .a (.lit (.int .i64 k))] [.a (.lit (.int .i64 (cs s k)))] := by
  refine Sound.of X Tryz.call173 Tryz.func173 rfl rfl (by decide) Tryz.ntmps173 (by simp) ?_
  intro zb
  refine W.seq ?_
  refine W.reg X [] [] [0, 1] [] rfl ⟨⟩ ?_
  refine W.seq ?_
  refine W.reg X [] [(9, ⟨false, [.a (.lit (.int .i64 _))]⟩)] [5] [] rfl (by (repeat' (first | with_reducible exact AllP.nil | with_reducible refine AllP.mk ?_ ?_ | with_reducible apply And.intro)) <;> skip; (iterate 1 (all_goals try (first | exact (c_spec_KeyedHash _ _ (by first | assumption | omega | (simp; done) | (simp; omega)))))); all_goals (first | exact ⟨rfl, El_all _ (by decide)⟩)) ?_
  refine W.seq ?_
  refine W.reg X [] [] [4] [] rfl (by (repeat' (first | exact True.intro | apply And.intro)) <;> first | (intros; omega)) ?_
  refine W.ret ?_
  exact Fin.ret rfl ⟨by rw [cs_eq (kh_range _ _).1 (kh_range _ _).2]; rfl, ⟨⟩⟩
theorem c_spec_StreamBytes (s n : Int) (h0 : 0 ≤ n) (h1 : n ≤ 400) : Sound ty Tryz.prog 125 [.a (.lit (.int .i64 s)), .a (.lit (.int .i64 n))] [.a (.sl .u8 (stream s n.toNat))] := by
  refine Sound.of X Tryz.call125 Tryz.func125 rfl rfl (by decide) Tryz.ntmps125 (by simp) ?_
  intro zb
  refine W.seq ?_
  refine W.reg X [] [] [0, 1] [] rfl ⟨⟩ ?_
  refine W.seq ?_
  refine W.reg X [] [] [0, 1, 5] [] rfl (by (repeat' (first | exact True.intro | apply And.intro)) <;> first | exact rfl) ?_
  refine W.seq ?_
  refine W.seq ?_
  refine W.reg X [] [] [0, 1, 5, 6] [] rfl ⟨⟩ ?_
  refine W.block ?_
  refine W.loopO (fun k => k ≤ n.toNat) (fun k : Nat => [(6, .one (.a (.lit (.int .i64 k))))]) (fun k => [(7, .arr .u8 (stream s k))]) (fun k => n.toNat - k) 0 (fun k => rfl) (Nat.zero_le _) rfl ?_
  intro k hk
  have hle := stream_len s k
  refine W.seq ?_
  refine W.seq ?_
  refine W.reg X [] [] [0, 1, 5, 6, 14] [] rfl ⟨⟩ ?_
  refine W.cond rfl (fun hb0 => ?_) (fun hb0 => ?_)
  · try simp only [nb, inr_t, inr_f, isEmpty_t] at hb0
    have hs := stream_step s k (by omega)
    refine W.skip ?_
    refine W.seq ?_
    refine W.block ?_
    refine W.reg X [(25, 7)] [(21, ⟨false, [.a (.lit (.int .i64 _))]⟩)] [0, 1, 5, 6] [] rfl (by (repeat' (first | with_reducible exact AllP.nil | with_reducible refine AllP.mk ?_ ?_ | with_reducible apply And.intro)) <;> skip; (iterate 1 (all_goals try (first | exact (c_spec_ChildSeed _ _)))); all_goals (first | (intros; omega) | exact rfl | exact ⟨rfl, El_all _ (by decide)⟩ | exact (u8w _).1 | exact (u8w _).2 | (simp only [byt, maxLen, lens]; omega))) ?_
    refine W.reg X [] [] [0, 1, 5, 6] [] rfl ⟨⟩ ?_
    refine ⟨k + 1, by omega, by omega, ?_⟩
    rw [wadd _ k rfl (by omega), hs]
    try rfl
  · try simp only [nb, inr_t, inr_f, isEmpty_t] at hb0
    refine W.exit ?_
    refine W.seq ?_
    refine W.reg X [] [] [4] [] rfl ⟨⟩ ?_
    refine W.ret ?_
    exact Fin.ret rfl ⟨by rw [show k = n.toNat by omega], ⟨⟩⟩
theorem c_spec_BytesToInts (l : List UInt8) (hl : l.length ≤ 1048576) : Sound ty Tryz.prog 178 [.a (.sl .u8 l)] [.a (.sl .int (b2i l))] := by
  refine Sound.of X Tryz.call178 Tryz.func178 rfl rfl (by decide) Tryz.ntmps178 (by simp) ?_
  intro zb
  refine W.seq ?_
  refine W.reg X [] [] [0] [] rfl ⟨⟩ ?_
  refine W.seq ?_
  refine W.reg X [] [] [0, 3] [] rfl (by (repeat' (first | exact True.intro | apply And.intro)) <;> first | exact rfl) ?_
  refine W.seq ?_
  refine W.seq ?_
  refine W.reg X [] [] [0, 3, 4] [] rfl ⟨⟩ ?_
  refine W.block ?_
  refine W.loopO (fun k => k ≤ l.length) (fun k : Nat => [(4, .one (.a (.lit (.int .i64 k))))]) (fun k => [(7, .arr .int ((l.length : Int) :: (l.take k).map (fun c => (c.toNat : Int))))]) (fun k => l.length - k) 0 (fun k => rfl) (Nat.zero_le _) rfl ?_
  intro k hk
  refine W.seq ?_
  refine W.seq ?_
  refine W.reg X [] [] [0, 3, 4, 11] [] rfl ⟨⟩ ?_
  refine W.cond rfl (fun hb0 => ?_) (fun hb0 => ?_)
  · try simp only [nb, inr_t, inr_f, isEmpty_t] at hb0
    have hs := b2i_step l k hb0
    refine W.skip ?_
    refine W.seq ?_
    refine W.block ?_
    refine W.reg X [(21, 7)] [] [0, 3, 4] [] rfl (by (repeat' (first | exact True.intro | apply And.intro)) <;> first | (intros; omega) | exact rfl | (simp only [byt, maxLen, lens]; omega)) ?_
    refine W.reg X [] [] [0, 3, 4] [] rfl ⟨⟩ ?_
    refine ⟨k + 1, by omega, by omega, ?_⟩
    rw [wadd _ k rfl (by omega), hs]
    try rfl
  · try simp only [nb, inr_t, inr_f, isEmpty_t] at hb0
    refine W.exit ?_
    refine W.seq ?_
    refine W.reg X [] [] [2] [] rfl ⟨⟩ ?_
    refine W.ret ?_
    exact Fin.ret rfl ⟨by rw [List.take_of_length_le hb0]; rfl, ⟨⟩⟩
end Go.Proofs.YthjedjndamejmaaGreat.G
namespace Go.Proofs.YthjedjndamejmaaGreat.G
set_option linter.all false
open Go.RowKit L D
set_option maxRecDepth 100000
theorem c_slices_Clone_byte_byte (l : List UInt8) (hl : l.length ≤ 1048576) : Sound ty Tryz.prog 193 [.a (.sl .u8 l)] [.a (.sl .u8 l)] := by
  refine Sound.of X Tryz.call193 Tryz.func193 rfl rfl (by decide) Tryz.ntmps193 (by simp) ?_
  intro zb
  refine W.seq ?_
  refine W.reg X [] [] [0] [] rfl ⟨⟩ ?_
  refine W.seq ?_
  refine W.seq ?_
  refine W.isNil X [] [] [0, 4] rfl (by (repeat' (first | exact True.intro | apply And.intro))) (fun hn1 => ?_) ?_
  · skip
    refine W.cond rfl (fun _ => ?_) (fun hb => absurd hb (by decide))
    refine W.seq ?_
    refine W.reg X [] [] [2] [] rfl ⟨⟩ ?_
    refine W.ret ?_
    exact Fin.ret rfl ⟨hn1, ⟨⟩⟩
  · skip
    refine W.cond rfl (fun hb => absurd hb (by decide)) (fun _ => ?_)
    refine W.skip ?_
    refine W.seq ?_
    refine W.reg X [(7, 5)] [] [2] [] rfl (by (repeat' (first | exact True.intro | apply And.intro)) <;> first | exact rfl | (simp only [byt, maxLen, lens]; omega)) ?_
    refine W.ret ?_
    exact Fin.ret rfl ⟨rfl, ⟨⟩⟩
theorem c_impl_XorBytes (a b : List UInt8) (ha : a.length ≤ 1048576) (hb : b.length ≤ 1048576) : Sound ty Tryz.prog 191 [.a (.sl .u8 a), .a (.sl .u8 b)] [.a (.sl .u8 (xorb a b))] := by
  refine Sound.of X Tryz.call191 Tryz.func191 rfl rfl (by decide) Tryz.ntmps191 (by simp) ?_
  intro zb
  refine W.seq ?_
  refine W.reg X [] [] [0, 1] [] rfl ⟨⟩ ?_
  refine W.seq ?_
  refine W.seq ?_
  refine W.reg X [] [] [0, 1, 12] [] rfl ⟨⟩ ?_
  refine W.cond rfl (fun hb0 => ?_) (fun hb0 => ?_)
  · try simp only [nb, inr_t, inr_f, isEmpty_t] at hb0
    rw [xorb_comm a b]
    have hle0 : a.length ≤ b.length := by omega
    obtain ⟨p, hp⟩ : ∃ p, p = b := ⟨_, rfl⟩
    obtain ⟨q, hq⟩ : ∃ q, q = a := ⟨_, rfl⟩
    subst hp; subst hq
    refine W.reg X [] [] [0, 1] [] rfl ⟨⟩ ?_
    refine W.seq ?_
    refine W.reg X [] [(16, ⟨true, [.a (.sl .u8 _)]⟩)] [1, 5] [] rfl (by (repeat' (first | with_reducible exact AllP.nil | with_reducible refine AllP.mk ?_ ?_ | with_reducible apply And.intro)) <;> skip; (iterate 1 (all_goals try (first | exact (c_slices_Clone_byte_byte _ (by first | assumption | omega | (simp; done) | (simp; omega))))))) ?_
    refine W.seq ?_
    refine W.seq ?_
    refine W.reg X [] [] [5, 17, 18, 19] [] rfl ⟨⟩ ?_
    refine W.block ?_
    refine W.loopO (fun k => k ≤ q.length) (fun k : Nat => [(19, .one (.a (.lit (.int .i64 k))))]) (fun k => [(16, .arr .u8 ((xorb p q).take k ++ p.drop k))]) (fun k => q.length - k) 0 (fun k => rfl) (Nat.zero_le _) rfl ?_
    intro k hk
    have hle := part_len (xorb p q) p k (by rw [xorb_length]; omega) (by omega)
    refine W.seq ?_
    refine W.reg X [] [] [5, 17, 18, 19, 20] [] rfl ⟨⟩ ?_
    refine W.seq ?_
    refine W.cond rfl (fun hb1 => ?_) (fun hb1 => ?_)
    · try simp only [nb, inr_t, inr_f, isEmpty_t] at hb1
      have hs := xor_impl p q k hb1 hle0
      refine W.skip ?_
      refine W.seq ?_
      refine W.block ?_
      refine W.seq ?_
      refine W.reg X [] [] [5, 6, 7, 17, 18, 19] [] rfl (by (repeat' (first | exact True.intro | apply And.intro)) <;> first | (intros; omega)) ?_
      refine W.reg X [] [] [5, 17, 18, 19] [] rfl (by (repeat' (first | exact True.intro | apply And.intro)) <;> first | (intros; omega) | exact (u8w _).1 | exact (u8w _).2) ?_
      refine W.reg X [] [] [5, 17, 18, 19] [] rfl ⟨⟩ ?_
      refine ⟨k + 1, by omega, by omega, ?_⟩
      rw [wadd _ k rfl (by omega), hs]
      try rfl
    · try simp only [nb, inr_t, inr_f, isEmpty_t] at hb1
      refine W.exit ?_
      refine W.seq ?_
      refine W.reg X [] [] [4] [] rfl ⟨⟩ ?_
      refine W.ret ?_
      exact Fin.ret rfl ⟨by rw [xor_done p q k hb1 hle0 hk], ⟨⟩⟩
  · try simp only [nb, inr_t, inr_f, isEmpty_t] at hb0
    have hle0 : b.length ≤ a.length := by omega
    obtain ⟨p, hp⟩ : ∃ p, p = a := ⟨_, rfl⟩
    obtain ⟨q, hq⟩ : ∃ q, q = b := ⟨_, rfl⟩
    subst hp; subst hq
    refine W.skip ?_
    refine W.seq ?_
    refine W.reg X [] [(16, ⟨true, [.a (.sl .u8 _)]⟩)] [1, 5] [] rfl (by (repeat' (first | with_reducible exact AllP.nil | with_reducible refine AllP.mk ?_ ?_ | with_reducible apply And.intro)) <;> skip; (iterate 1 (all_goals try (first | exact (c_slices_Clone_byte_byte _ (by first | assumption | omega | (simp; done) | (simp; omega))))))) ?_
    refine W.seq ?_
    refine W.seq ?_
    refine W.reg X [] [] [5, 17, 18, 19] [] rfl ⟨⟩ ?_
    refine W.block ?_
    refine W.loopO (fun k => k ≤ q.length) (fun k : Nat => [(19, .one (.a (.lit (.int .i64 k))))]) (fun k => [(16, .arr .u8 ((xorb p q).take k ++ p.drop k))]) (fun k => q.length - k) 0 (fun k => rfl) (Nat.zero_le _) rfl ?_
    intro k hk
    have hle := part_len (xorb p q) p k (by rw [xorb_length]; omega) (by omega)
    refine W.seq ?_
    refine W.reg X [] [] [5, 17, 18, 19, 20] [] rfl ⟨⟩ ?_
    refine W.seq ?_
    refine W.cond rfl (fun hb1 => ?_) (fun hb1 => ?_)
    · try simp only [nb, inr_t, inr_f, isEmpty_t] at hb1
      have hs := xor_impl p q k hb1 hle0
      refine W.skip ?_
      refine W.seq ?_
      refine W.block ?_
      refine W.seq ?_
      refine W.reg X [] [] [5, 6, 7, 17, 18, 19] [] rfl (by (repeat' (first | exact True.intro | apply And.intro)) <;> first | (intros; omega)) ?_
      refine W.reg X [] [] [5, 17, 18, 19] [] rfl (by (repeat' (first | exact True.intro | apply And.intro)) <;> first | (intros; omega) | exact (u8w _).1 | exact (u8w _).2) ?_
      refine W.reg X [] [] [5, 17, 18, 19] [] rfl ⟨⟩ ?_
      refine ⟨k + 1, by omega, by omega, ?_⟩
      rw [wadd _ k rfl (by omega), hs]
      try rfl
    · try simp only [nb, inr_t, inr_f, isEmpty_t] at hb1
      refine W.exit ?_
      refine W.seq ?_
      refine W.reg X [] [] [4] [] rfl ⟨⟩ ?_
      refine W.ret ?_
      exact Fin.ret rfl ⟨by rw [xor_done p q k hb1 hle0 hk], ⟨⟩⟩
theorem c_spec_XorBytes (a b : List UInt8) (ha : a.length ≤ 1048576) (hb : b.length ≤ 1048576) : Sound ty Tryz.prog 176 [.a (.sl .u8 a), .a (.sl .u8 b)] [.a (.sl .u8 (xorb a b))] := by
  refine Sound.of X Tryz.call176 Tryz.func176 rfl rfl (by decide) Tryz.ntmps176 (by simp) ?_
  intro zb
  refine W.seq ?_
  refine W.reg X [] [] [0, 1] [] rfl ⟨⟩ ?_
  refine W.seq ?_
  refine W.reg X [] [] [0, 1, 5] [] rfl (by (repeat' (first | exact True.intro | apply And.intro)) <;> first | exact rfl) ?_
  refine W.seq ?_
  refine W.seq ?_
  refine W.reg X [] [] [0, 1, 5, 6] [] rfl ⟨⟩ ?_
  refine W.block ?_
  refine W.loopO (fun k => k ≤ max a.length b.length) (fun k : Nat => [(6, .one (.a (.lit (.int .i64 k))))]) (fun k => [(8, .arr .u8 ((xorb a b).take k))]) (fun k => max a.length b.length - k) 0 (fun k => rfl) (Nat.zero_le _) rfl ?_
  intro k hk
  have hle := take_le_len (xorb a b) k
  refine W.seq ?_
  refine W.seq ?_
  refine W.reg X [] [] [0, 1, 5, 6, 18] [] rfl ⟨⟩ ?_
  refine W.cond rfl (fun hb0 => ?_) (fun hb0 => ?_)
  · try simp only [nb, inr_t, inr_f, isEmpty_t] at hb0
    refine W.skip ?_
    refine W.seq ?_
    refine W.block ?_
    refine W.seq ?_
    refine W.reg X [] [] [0, 1, 5, 6, 7] [] rfl ⟨⟩ ?_
    refine W.seq ?_
    refine W.seq ?_
    refine W.reg X [] [] [0, 1, 5, 6, 7, 24] [] rfl ⟨⟩ ?_
    refine W.cond rfl (fun hb1 => ?_) (fun hb1 => ?_)
    · try simp only [nb, inr_t, inr_f, isEmpty_t] at hb1
      refine W.reg X [] [] [0, 1, 5, 6, 7] [] rfl (by (repeat' (first | exact True.intro | apply And.intro)) <;> first | (intros; omega)) ?_
      refine W.seq ?_
      refine W.seq ?_
      refine W.reg X [] [] [0, 1, 5, 6, 7, 32] [] rfl ⟨⟩ ?_
      refine W.cond rfl (fun hb2 => ?_) (fun hb2 => ?_)
      · try simp only [nb, inr_t, inr_f, isEmpty_t] at hb2
        have hs := xor_ab a b k hb1 hb2
        refine W.reg X [] [] [0, 1, 5, 6, 7] [] rfl (by (repeat' (first | exact True.intro | apply And.intro)) <;> first | (intros; omega)) ?_
        refine W.reg X [(42, 8)] [] [0, 1, 5, 6] [] rfl (by (repeat' (first | exact True.intro | apply And.intro)) <;> first | exact rfl | exact (u8w _).1 | exact (u8w _).2 | (simp only [byt, maxLen, lens]; omega)) ?_
        refine W.reg X [] [] [0, 1, 5, 6] [] rfl ⟨⟩ ?_
        refine ⟨k + 1, by omega, by omega, ?_⟩
        rw [wadd _ k rfl (by omega), hs]
        try rfl
      · try simp only [nb, inr_t, inr_f, isEmpty_t] at hb2
        have hs := xor_a a b k hb1 hb2
        refine W.skip ?_
        refine W.reg X [(42, 8)] [] [0, 1, 5, 6] [] rfl (by (repeat' (first | exact True.intro | apply And.intro)) <;> first | (intros; omega) | exact rfl | exact (u8n _).2 | (simp only [byt, maxLen, lens]; omega)) ?_
        refine W.reg X [] [] [0, 1, 5, 6] [] rfl ⟨⟩ ?_
        refine ⟨k + 1, by omega, by omega, ?_⟩
        rw [wadd _ k rfl (by omega), hs]
        try rfl
    · try simp only [nb, inr_t, inr_f, isEmpty_t] at hb1
      refine W.skip ?_
      refine W.seq ?_
      refine W.seq ?_
      refine W.reg X [] [] [0, 1, 5, 6, 7, 32] [] rfl ⟨⟩ ?_
      refine W.cond rfl (fun hb2 => ?_) (fun hb2 => ?_)
      · try simp only [nb, inr_t, inr_f, isEmpty_t] at hb2
        have hs := xor_b a b k hb1 hb2
        refine W.reg X [] [] [0, 1, 5, 6, 7] [] rfl (by (repeat' (first | exact True.intro | apply And.intro)) <;> first | (intros; omega)) ?_
        refine W.reg X [(42, 8)] [] [0, 1, 5, 6] [] rfl (by (repeat' (first | exact True.intro | apply And.intro)) <;> first | exact rfl | exact (u8w _).1 | exact (u8w _).2 | (simp only [byt, maxLen, lens]; omega)) ?_
        refine W.reg X [] [] [0, 1, 5, 6] [] rfl ⟨⟩ ?_
        refine ⟨k + 1, by omega, by omega, ?_⟩
        rw [wadd _ k rfl (by omega), hs]
        try rfl
      · try simp only [nb, inr_t, inr_f, isEmpty_t] at hb2
        omega
  · try simp only [nb, inr_t, inr_f, isEmpty_t] at hb0
    refine W.exit ?_
    refine W.seq ?_
    refine W.reg X [] [] [4] [] rfl ⟨⟩ ?_
    refine W.ret ?_
    exact Fin.ret rfl ⟨by rw [List.take_of_length_le (by rw [xorb_length]; omega)], ⟨⟩⟩
theorem c_impl_copyLists (l : List (List UInt8)) (hs0 : lsz List.length l ≤ 1048576) : Sound ty Tryz.prog 147 [.a (.sl (.sl .u8) l)] [.a (.sl (.sl .u8) l)] := by
  refine Sound.of X Tryz.call147 Tryz.func147 rfl rfl (by decide) Tryz.ntmps147 (by simp) ?_
  intro zb
  have hll : l.length ≤ 1048576 := lsz_len hs0
  refine W.seq ?_
  refine W.reg X [] [] [0] [] rfl ⟨⟩ ?_
  refine W.seq ?_
  refine W.reg X [] [] [0, 3] [] rfl (by (repeat' (first | exact True.intro | apply And.intro)) <;> first | exact rfl) ?_
  refine W.seq ?_
  refine W.seq ?_
  refine W.reg X [] [] [3, 7, 8, 9] [] rfl ⟨⟩ ?_
  refine W.block ?_
  refine W.loopO (fun k => k ≤ l.length) (fun k : Nat => [(9, .one (.a (.lit (.int .i64 k))))]) (fun k => [(6, .arr (.sl .u8) (l.take k))]) (fun k => l.length - k) 0 (fun k => rfl) (Nat.zero_le _) rfl ?_
  intro k hk
  have hle := take_le_len l k
  refine W.seq ?_
  refine W.reg X [] [] [3, 7, 8, 9, 10] [] rfl ⟨⟩ ?_
  refine W.seq ?_
  refine W.cond rfl (fun hb0 => ?_) (fun hb0 => ?_)
  · try simp only [nb, inr_t, inr_f, isEmpty_t] at hb0
    have hs := take_snoc l k (dfl (.sl .u8)) hb0
    have hel := lsz_el hs0 k hb0
    refine W.skip ?_
    refine W.seq ?_
    refine W.block ?_
    refine W.seq ?_
    refine W.reg X [] [] [3, 5, 7, 8, 9] [] rfl (by (repeat' (first | exact True.intro | apply And.intro)) <;> first | (intros; omega)) ?_
    refine W.reg X [(17, 6)] [(15, ⟨true, [.a (.sl .u8 _)]⟩)] [3, 7, 8, 9] [] rfl (by (repeat' (first | with_reducible exact AllP.nil | with_reducible refine AllP.mk ?_ ?_ | with_reducible apply And.intro)) <;> skip; (iterate 1 (all_goals try (first | exact (c_slices_Clone_byte_byte _ (by first | assumption | omega | (simp; done) | (simp; omega)))))); all_goals (first | exact rfl | (simp only [byt, maxLen, lens]; omega))) ?_
    refine W.reg X [] [] [3, 7, 8, 9] [] rfl ⟨⟩ ?_
    refine ⟨k + 1, by omega, by omega, ?_⟩
    rw [wadd _ k rfl (by omega), hs]
    try rfl
  · try simp only [nb, inr_t, inr_f, isEmpty_t] at hb0
    refine W.exit ?_
    refine W.seq ?_
    refine W.reg X [] [] [2] [] rfl ⟨⟩ ?_
    refine W.ret ?_
    exact Fin.ret rfl ⟨by rw [List.take_of_length_le hb0], ⟨⟩⟩
theorem c_spec_l4Copy (l : List (List UInt8)) (hs0 : lsz List.length l ≤ 1048576) : Sound ty Tryz.prog 127 [.a (.sl (.sl .u8) l)] [.a (.sl (.sl .u8) l)] := by
  refine Sound.of X Tryz.call127 Tryz.func127 rfl rfl (by decide) Tryz.ntmps127 (by simp) ?_
  intro zb
  have hll : l.length ≤ 1048576 := lsz_len hs0
  refine W.seq ?_
  refine W.reg X [] [] [0] [] rfl ⟨⟩ ?_
  refine W.seq ?_
  refine W.reg X [] [] [0, 3] [] rfl (by (repeat' (first | exact True.intro | apply And.intro)) <;> first | exact rfl) ?_
  refine W.seq ?_
  refine W.seq ?_
  refine W.reg X [] [] [0, 3, 4] [] rfl ⟨⟩ ?_
  refine W.block ?_
  refine W.loopO (fun k => k ≤ l.length) (fun k : Nat => [(4, .one (.a (.lit (.int .i64 k))))]) (fun k => [(5, .arr (.sl .u8) (l.take k))]) (fun k => l.length - k) 0 (fun k => rfl) (Nat.zero_le _) rfl ?_
  intro k hk
  have hle := take_le_len l k
  refine W.seq ?_
  refine W.seq ?_
  refine W.reg X [] [] [0, 3, 4, 9] [] rfl ⟨⟩ ?_
  refine W.cond rfl (fun hb0 => ?_) (fun hb0 => ?_)
  · try simp only [nb, inr_t, inr_f, isEmpty_t] at hb0
    have hs := take_snoc l k (dfl (.sl .u8)) hb0
    have hel := lsz_el hs0 k hb0
    refine W.skip ?_
    refine W.seq ?_
    refine W.block ?_
    refine W.reg X [(18, 13), (20, 5)] [] [0, 3, 4] [] rfl (by (repeat' (first | exact True.intro | apply And.intro)) <;> first | (intros; omega) | exact rfl | (simp only [byt, maxLen, lens]; omega)) ?_
    refine W.reg X [] [] [0, 3, 4] [] rfl ⟨⟩ ?_
    refine ⟨k + 1, by omega, by omega, ?_⟩
    rw [wadd _ k rfl (by omega), hs]
    try rfl
  · try simp only [nb, inr_t, inr_f, isEmpty_t] at hb0
    refine W.exit ?_
    refine W.seq ?_
    refine W.reg X [] [] [2] [] rfl ⟨⟩ ?_
    refine W.ret ?_
    exact Fin.ret rfl ⟨by rw [List.take_of_length_le hb0], ⟨⟩⟩
theorem c_impl_Encrypt (s : Int) (l : List UInt8) (hl : l.length ≤ 1048576) : Sound ty Tryz.prog 210 [.a (.lit (.int .i64 s)), .a (.sl .u8 l)] [.a (.sl .u8 (encr s l))] := by
  refine Sound.of X Tryz.call210 Tryz.func210 rfl rfl (by decide) Tryz.ntmps210 (by simp) ?_
  intro zb
  refine W.seq ?_
  refine W.reg X [] [] [0, 1] [] rfl ⟨⟩ ?_
  refine W.seq ?_
  refine W.reg X [] [(8, ⟨true, [.a (.sl .u8 _)]⟩)] [0, 5] [] rfl (by (repeat' (first | with_reducible exact AllP.nil | with_reducible refine AllP.mk ?_ ?_ | with_reducible apply And.intro)) <;> skip; (iterate 1 (all_goals try (first | exact (c_slices_Clone_byte_byte _ (by first | assumption | omega | (simp; done) | (simp; omega))))))) ?_
  refine W.seq ?_
  refine W.seq ?_
  refine W.reg X [] [] [0, 5, 10, 11] [] rfl ⟨⟩ ?_
  refine W.block ?_
  refine W.loopO (fun k => k ≤ l.length) (fun k : Nat => [(11, .one (.a (.lit (.int .i64 k))))]) (fun k => [(8, .arr .u8 ((encr s l).take k ++ l.drop k))]) (fun k => l.length - k) 0 (fun k => rfl) (Nat.zero_le _) rfl ?_
  intro k hk
  have hle := part_len (encr s l) l k (encr_len s l) hk
  refine W.seq ?_
  refine W.reg X [] [] [0, 5, 10, 11, 12] [] rfl ⟨⟩ ?_
  refine W.seq ?_
  refine W.cond rfl (fun hb0 => ?_) (fun hb0 => ?_)
  · try simp only [nb, inr_t, inr_f, isEmpty_t] at hb0
    have hs := encr_impl s l k hb0
    refine W.skip ?_
    refine W.seq ?_
    refine W.block ?_
    refine W.seq ?_
    refine W.reg X [] [] [0, 5, 6, 10, 11] [] rfl ⟨⟩ ?_
    refine W.draw X [] [(21, ⟨false, [.a (.lit (.int .i64 _))]⟩)] [0, 5, 10, 11] [] 12 MO (by kernel_rfl) rfl (by (repeat' (first | with_reducible exact AllP.nil | with_reducible refine AllP.mk ?_ ?_ | with_reducible apply And.intro)) <;> skip; (iterate 1 (all_goals try (first | exact (c_impl_KeyedHash _ _ (by first | assumption | omega | (simp; done) | (simp; omega)))))); all_goals (first | (intros; omega) | exact ⟨rfl, El_all _ (by decide)⟩ | exact (u8w _).1 | exact (u8w _).2)) ?_
    refine W.reg X [] [] [0, 5, 10, 11] [] rfl ⟨⟩ ?_
    refine ⟨k + 1, by omega, by omega, ?_⟩
    rw [wadd _ k rfl (by omega), hs]
    try rfl
  · try simp only [nb, inr_t, inr_f, isEmpty_t] at hb0
    refine W.exit ?_
    refine W.seq ?_
    refine W.reg X [] [] [4] [] rfl ⟨⟩ ?_
    refine W.ret ?_
    exact Fin.ret rfl ⟨by rw [inplace_done _ _ _ (encr_len s l) hb0], ⟨⟩⟩
theorem c_impl_IsValidKey (k : Int) : Sound ty Tryz.prog 82 [.a (.lit (.int .i64 k))] [.a (.lit (.bool (okKey k)))] := by
  refine Sound.of X Tryz.call82 Tryz.func82 rfl rfl (by decide) Tryz.ntmps82 (by simp) ?_
  intro zb
  refine W.seq ?_
  refine W.reg X [] [] [0] [] rfl ⟨⟩ ?_
  refine W.seq ?_
  refine W.reg X [] [(4, ⟨false, [.a (.lit (.bool _))]⟩)] [2] [] rfl (by (repeat' (first | with_reducible exact AllP.nil | with_reducible refine AllP.mk ?_ ?_ | with_reducible apply And.intro)) <;> skip; (iterate 1 (all_goals try (first | exact (c_impl_InRange _ _ _))))) ?_
  refine W.ret ?_
  exact Fin.ret rfl ⟨rfl, ⟨⟩⟩
theorem c_impl_IsValidPlain (p : Plain) : Sound ty Tryz.prog 209 [.agg (dec_Plain p)] [.a (.lit (.bool (okPlain p)))] := by
  refine Sound.of X Tryz.call209 Tryz.func209 rfl rfl (by decide) Tryz.ntmps209 (by simp) ?_
  intro zb
  refine W.seq ?_
  refine W.reg X [] [] [1] [] rfl ⟨⟩ ?_
  refine W.seq ?_
  refine W.reg X [] [(5, ⟨false, [.a (.lit (.bool _))]⟩)] [2] [] rfl (by (repeat' (first | with_reducible exact AllP.nil | with_reducible refine AllP.mk ?_ ?_ | with_reducible apply And.intro)) <;> skip; (iterate 1 (all_goals try (first | exact (c_impl_InRange _ _ _))))) ?_
  refine W.ret ?_
  exact Fin.ret rfl ⟨by unfold okPlain; cases inr p.kind 0 3 <;> rfl, ⟨⟩⟩
theorem c_impl_CellCheck (key c : Int) (l : List UInt8) (hl : l.length ≤ 65536) : Sound ty Tryz.prog 216 [.a (.lit (.int .i64 key)), .a (.lit (.int .i64 c)), .a (.sl .u8 l)] [.a (.lit (.int .i64 (ccheck key c l)))] := by
  refine Sound.of X Tryz.call216 Tryz.func216 rfl rfl (by decide) Tryz.ntmps216 (by simp) ?_
  intro zb
  refine W.seq ?_
  refine W.reg X [] [] [0, 1, 2] [] rfl ⟨⟩ ?_
  refine W.seq ?_
  refine W.reg X [] [] [0, 2, 7] [] rfl (by (repeat' (first | exact True.intro | apply And.intro)) <;> first | exact rfl) ?_
  refine W.seq ?_
  refine W.seq ?_
  refine W.reg X [] [] [0, 7, 12, 13, 14] [] rfl ⟨⟩ ?_
  refine W.block ?_
  refine W.loopO (fun k => k ≤ l.length) (fun k : Nat => [(14, .one (.a (.lit (.int .i64 k))))]) (fun k => [(11, .arr .int ([71, c] ++ (l.take k).map (fun x => (x.toNat : Int))))]) (fun k => l.length - k) 0 (fun k => rfl) (Nat.zero_le _) rfl ?_
  intro k hk
  refine W.seq ?_
  refine W.reg X [] [] [0, 7, 12, 13, 14, 15] [] rfl ⟨⟩ ?_
  refine W.seq ?_
  refine W.cond rfl (fun hb0 => ?_) (fun hb0 => ?_)
  · try simp only [nb, inr_t, inr_f, isEmpty_t] at hb0
    have hs := cc_step l c k hb0
    refine W.skip ?_
    refine W.seq ?_
    refine W.block ?_
    refine W.seq ?_
    refine W.reg X [] [] [0, 7, 9, 12, 13, 14] [] rfl (by (repeat' (first | exact True.intro | apply And.intro)) <;> first | (intros; omega)) ?_
    refine W.reg X [(22, 11)] [] [0, 7, 12, 13, 14] [] rfl (by (repeat' (first | exact True.intro | apply And.intro)) <;> first | exact rfl | (simp only [byt, maxLen, lens]; omega)) ?_
    refine W.reg X [] [] [0, 7, 12, 13, 14] [] rfl ⟨⟩ ?_
    refine ⟨k + 1, by omega, by omega, ?_⟩
    rw [wadd _ k rfl (by omega), hs]
    try rfl
  · try simp only [nb, inr_t, inr_f, isEmpty_t] at hb0
    refine W.exit ?_
    refine W.seq ?_
    refine W.reg X [] [(26, ⟨false, [.a (.lit (.int .i64 _))]⟩)] [6] [] rfl (by (repeat' (first | with_reducible exact AllP.nil | with_reducible refine AllP.mk ?_ ?_ | with_reducible apply And.intro)) <;> skip; (iterate 1 (all_goals try (first | exact (c_impl_KeyedHash _ _ (by first | assumption | omega | (simp; done) | (simp; omega))))))) ?_
    refine W.ret ?_
    exact Fin.ret rfl ⟨by rw [List.take_of_length_le hb0]; rfl, ⟨⟩⟩
theorem c_impl_MailboxRow (key r d n : Int) : Sound ty Tryz.prog 137 [.a (.lit (.int .i64 key)), .a (.lit (.int .i64 r)), .a (.lit (.int .i64 d)), .a (.lit (.int .i64 n))] [.a (.lit (.int .i64 (mrow key r d n)))] := by
  refine Sound.of X Tryz.call137 Tryz.func137 rfl rfl (by decide) Tryz.ntmps137 (by simp) ?_
  intro zb
  refine W.seq ?_
  refine W.reg X [] [] [0, 1, 2, 3] [] rfl ⟨⟩ ?_
  refine W.seq ?_
  refine W.seq ?_
  refine W.reg X [] [(10, ⟨false, [.a (.lit (.bool _))]⟩), (14, ⟨false, [.a (.lit (.bool _))]⟩)] [0, 1, 2, 3, 16] [] rfl (by (repeat' (first | with_reducible exact AllP.nil | with_reducible refine AllP.mk ?_ ?_ | with_reducible apply And.intro)) <;> skip; (iterate 1 (all_goals try (first | exact (c_impl_InRange _ _ _) | exact fun _ => (c_impl_InRange _ _ _))))) ?_
  refine W.cond rfl (fun hb0 => ?_) (fun hb0 => ?_)
  · try simp only [nb, inr_t, inr_f, isEmpty_t] at hb0
    refine W.seq ?_
    refine W.reg X [] [] [8] [] rfl ⟨⟩ ?_
    refine W.ret ?_
    exact Fin.ret rfl ⟨by rw [mrow, if_neg (by omega)], ⟨⟩⟩
  · try simp only [nb, inr_t, inr_f, isEmpty_t] at hb0
    have hcs := cs_range (kh key [79, r, d]) 0
    refine W.skip ?_
    refine W.seq ?_
    refine W.reg X [] [(21, ⟨false, [.a (.lit (.int .i64 _))]⟩), (22, ⟨false, [.a (.lit (.int .i64 _))]⟩)] [8] [] rfl (by (repeat' (first | with_reducible exact AllP.nil | with_reducible refine AllP.mk ?_ ?_ | with_reducible apply And.intro)) <;> skip; (iterate 2 (all_goals try (first | exact (c_impl_KeyedHash _ _ (by first | assumption | omega | (simp; done) | (simp; omega))) | exact (c_impl_ChildSeed _ _)))); all_goals (first | (intros; omega) | exact ⟨rfl, El_all _ (by decide)⟩)) ?_
    refine W.ret ?_
    exact Fin.ret rfl ⟨by rw [mrow, if_pos (by omega), tmod_pos hcs.1], ⟨⟩⟩
theorem c_impl_CoverRow (s r n : Int) : Sound ty Tryz.prog 140 [.a (.lit (.int .i64 s)), .a (.lit (.int .i64 r)), .a (.lit (.int .i64 n))] [.a (.lit (.int .i64 (crow s r n)))] := by
  refine Sound.of X Tryz.call140 Tryz.func140 rfl rfl (by decide) Tryz.ntmps140 (by simp) ?_
  intro zb
  refine W.seq ?_
  refine W.reg X [] [] [0, 1, 2] [] rfl ⟨⟩ ?_
  refine W.seq ?_
  refine W.seq ?_
  refine W.reg X [] [(8, ⟨false, [.a (.lit (.bool _))]⟩)] [0, 1, 2, 9] [] rfl (by (repeat' (first | with_reducible exact AllP.nil | with_reducible refine AllP.mk ?_ ?_ | with_reducible apply And.intro)) <;> skip; (iterate 1 (all_goals try (first | exact (c_impl_InRange _ _ _))))) ?_
  refine W.cond rfl (fun hb0 => ?_) (fun hb0 => ?_)
  · try simp only [nb, inr_t, inr_f, isEmpty_t] at hb0
    refine W.seq ?_
    refine W.reg X [] [] [6] [] rfl ⟨⟩ ?_
    refine W.ret ?_
    exact Fin.ret rfl ⟨by rw [crow, if_neg (by omega)], ⟨⟩⟩
  · try simp only [nb, inr_t, inr_f, isEmpty_t] at hb0
    have hcs := cs_range (kh s [157, r]) 0
    refine W.skip ?_
    refine W.seq ?_
    refine W.reg X [] [(13, ⟨false, [.a (.lit (.int .i64 _))]⟩), (14, ⟨false, [.a (.lit (.int .i64 _))]⟩)] [6] [] rfl (by (repeat' (first | with_reducible exact AllP.nil | with_reducible refine AllP.mk ?_ ?_ | with_reducible apply And.intro)) <;> skip; (iterate 2 (all_goals try (first | exact (c_impl_KeyedHash _ _ (by first | assumption | omega | (simp; done) | (simp; omega))) | exact (c_impl_ChildSeed _ _)))); all_goals (first | (intros; omega) | exact ⟨rfl, El_all _ (by decide)⟩)) ?_
    refine W.ret ?_
    exact Fin.ret rfl ⟨by rw [crow, if_pos (by omega), tmod_pos hcs.1], ⟨⟩⟩
theorem c_impl_CoverCell (s : Int) : Sound ty Tryz.prog 141 [.a (.lit (.int .i64 s))] [.a (.sl .u8 (cover s))] := by
  refine Sound.of X Tryz.call141 Tryz.func141 rfl rfl (by decide) Tryz.ntmps141 (by simp) ?_
  intro zb
  refine W.seq ?_
  refine W.reg X [] [] [0] [] rfl ⟨⟩ ?_
  refine W.seq ?_
  refine W.reg X [] [(5, ⟨false, [.a (.lit (.int .i64 _))]⟩), (6, ⟨true, [.a (.sl .u8 _)]⟩)] [2] [] rfl (by (repeat' (first | with_reducible exact AllP.nil | with_reducible refine AllP.mk ?_ ?_ | with_reducible apply And.intro)) <;> skip; (iterate 2 (all_goals try (first | exact (c_impl_KeyedHash _ _ (by first | assumption | omega | (simp; done) | (simp; omega))) | exact (c_impl_StreamBytes _ _ (by first | assumption | omega | (simp; done) | (simp; omega)) (by first | assumption | omega | (simp; done) | (simp; omega)))))); all_goals (first | exact ⟨rfl, El_all _ (by decide)⟩)) ?_
  refine W.ret ?_
  exact Fin.ret rfl ⟨rfl, ⟨⟩⟩
theorem c_spec_Encrypt (s : Int) (l : List UInt8) (hl : l.length ≤ 1048576) : Sound ty Tryz.prog 202 [.a (.lit (.int .i64 s)), .a (.sl .u8 l)] [.a (.sl .u8 (encr s l))] := by
  refine Sound.of X Tryz.call202 Tryz.func202 rfl rfl (by decide) Tryz.ntmps202 (by simp) ?_
  intro zb
  refine W.seq ?_
  refine W.reg X [] [] [0, 1] [] rfl ⟨⟩ ?_
  refine W.seq ?_
  refine W.reg X [] [] [0, 1, 5] [] rfl (by (repeat' (first | exact True.intro | apply And.intro)) <;> first | exact rfl) ?_
  refine W.seq ?_
  refine W.seq ?_
  refine W.reg X [] [] [0, 1, 5, 6] [] rfl ⟨⟩ ?_
  refine W.block ?_
  refine W.loopO (fun k => k ≤ l.length) (fun k : Nat => [(6, .one (.a (.lit (.int .i64 k))))]) (fun k => [(7, .arr .u8 ((encr s l).take k))]) (fun k => l.length - k) 0 (fun k => rfl) (Nat.zero_le _) rfl ?_
  intro k hk
  have hle := take_le_len (encr s l) k
  refine W.seq ?_
  refine W.seq ?_
  refine W.reg X [] [] [0, 1, 5, 6, 11] [] rfl ⟨⟩ ?_
  refine W.cond rfl (fun hb0 => ?_) (fun hb0 => ?_)
  · try simp only [nb, inr_t, inr_f, isEmpty_t] at hb0
    have hs := encr_spec s l k hb0
    refine W.skip ?_
    refine W.seq ?_
    refine W.block ?_
    refine W.draw X [(29, 7)] [(23, ⟨false, [.a (.lit (.int .i64 _))]⟩)] [0, 1, 5, 6] [] 15 MO (by kernel_rfl) rfl (by (repeat' (first | with_reducible exact AllP.nil | with_reducible refine AllP.mk ?_ ?_ | with_reducible apply And.intro)) <;> skip; (iterate 1 (all_goals try (first | exact (c_spec_KeyedHash _ _ (by first | assumption | omega | (simp; done) | (simp; omega)))))); all_goals (first | (intros; omega) | exact rfl | exact ⟨rfl, El_all _ (by decide)⟩ | exact (u8w _).1 | exact (u8w _).2 | (simp only [byt, maxLen, lens]; omega))) ?_
    refine W.reg X [] [] [0, 1, 5, 6] [] rfl ⟨⟩ ?_
    refine ⟨k + 1, by omega, by omega, ?_⟩
    rw [wadd _ k rfl (by omega), hs]
    try rfl
  · try simp only [nb, inr_t, inr_f, isEmpty_t] at hb0
    refine W.exit ?_
    refine W.seq ?_
    refine W.reg X [] [] [4] [] rfl ⟨⟩ ?_
    refine W.ret ?_
    exact Fin.ret rfl ⟨by rw [List.take_of_length_le (by rw [encr_len]; exact hb0)], ⟨⟩⟩
theorem c_spec_IsValidKey (k : Int) : Sound ty Tryz.prog 62 [.a (.lit (.int .i64 k))] [.a (.lit (.bool (okKey k)))] := by
  refine Sound.of X Tryz.call62 Tryz.func62 rfl rfl (by decide) Tryz.ntmps62 (by simp) ?_
  intro zb
  refine W.seq ?_
  refine W.reg X [] [] [0] [] rfl ⟨⟩ ?_
  refine W.seq ?_
  refine W.reg X [] [(4, ⟨false, [.a (.lit (.bool _))]⟩)] [2] [] rfl (by (repeat' (first | with_reducible exact AllP.nil | with_reducible refine AllP.mk ?_ ?_ | with_reducible apply And.intro)) <;> skip; (iterate 1 (all_goals try (first | exact (c_spec_l1In _ _ _))))) ?_
  refine W.ret ?_
  exact Fin.ret rfl ⟨rfl, ⟨⟩⟩
theorem c_spec_IsValidPlain (p : Plain) : Sound ty Tryz.prog 201 [.agg (dec_Plain p)] [.a (.lit (.bool (okPlain p)))] := by
  refine Sound.of X Tryz.call201 Tryz.func201 rfl rfl (by decide) Tryz.ntmps201 (by simp) ?_
  intro zb
  refine W.seq ?_
  refine W.reg X [] [] [1] [] rfl ⟨⟩ ?_
  refine W.seq ?_
  refine W.reg X [] [(5, ⟨false, [.a (.lit (.bool _))]⟩)] [2] [] rfl (by (repeat' (first | with_reducible exact AllP.nil | with_reducible refine AllP.mk ?_ ?_ | with_reducible apply And.intro)) <;> skip; (iterate 1 (all_goals try (first | exact (c_spec_l1In _ _ _))))) ?_
  refine W.ret ?_
  exact Fin.ret rfl ⟨by unfold okPlain; cases inr p.kind 0 3 <;> rfl, ⟨⟩⟩
theorem c_spec_CellCheck (key c : Int) (l : List UInt8) (hl : l.length ≤ 65536) : Sound ty Tryz.prog 204 [.a (.lit (.int .i64 key)), .a (.lit (.int .i64 c)), .a (.sl .u8 l)] [.a (.lit (.int .i64 (ccheck key c l)))] := by
  refine Sound.of X Tryz.call204 Tryz.func204 rfl rfl (by decide) Tryz.ntmps204 (by simp) ?_
  intro zb
  refine W.seq ?_
  refine W.reg X [] [] [0, 1, 2] [] rfl ⟨⟩ ?_
  refine W.seq ?_
  refine W.reg X [] [] [0, 2, 7] [] rfl (by (repeat' (first | exact True.intro | apply And.intro)) <;> first | exact rfl) ?_
  refine W.seq ?_
  refine W.seq ?_
  refine W.reg X [] [] [0, 2, 7, 8] [] rfl ⟨⟩ ?_
  refine W.block ?_
  refine W.loopO (fun k => k ≤ l.length) (fun k : Nat => [(8, .one (.a (.lit (.int .i64 k))))]) (fun k => [(10, .arr .int ([71, c] ++ (l.take k).map (fun x => (x.toNat : Int))))]) (fun k => l.length - k) 0 (fun k => rfl) (Nat.zero_le _) rfl ?_
  intro k hk
  refine W.seq ?_
  refine W.seq ?_
  refine W.reg X [] [] [0, 2, 7, 8, 14] [] rfl ⟨⟩ ?_
  refine W.cond rfl (fun hb0 => ?_) (fun hb0 => ?_)
  · try simp only [nb, inr_t, inr_f, isEmpty_t] at hb0
    have hs := cc_step l c k hb0
    refine W.skip ?_
    refine W.seq ?_
    refine W.block ?_
    refine W.reg X [(24, 10)] [] [0, 2, 7, 8] [] rfl (by (repeat' (first | exact True.intro | apply And.intro)) <;> first | (intros; omega) | exact rfl | (simp only [byt, maxLen, lens]; omega)) ?_
    refine W.reg X [] [] [0, 2, 7, 8] [] rfl ⟨⟩ ?_
    refine ⟨k + 1, by omega, by omega, ?_⟩
    rw [wadd _ k rfl (by omega), hs]
    try rfl
  · try simp only [nb, inr_t, inr_f, isEmpty_t] at hb0
    refine W.exit ?_
    refine W.seq ?_
    refine W.reg X [] [(27, ⟨false, [.a (.lit (.int .i64 _))]⟩)] [6] [] rfl (by (repeat' (first | with_reducible exact AllP.nil | with_reducible refine AllP.mk ?_ ?_ | with_reducible apply And.intro)) <;> skip; (iterate 1 (all_goals try (first | exact (c_spec_KeyedHash _ _ (by first | assumption | omega | (simp; done) | (simp; omega))))))) ?_
    refine W.ret ?_
    exact Fin.ret rfl ⟨by rw [List.take_of_length_le hb0]; rfl, ⟨⟩⟩
theorem c_spec_MailboxRow (key r d n : Int) : Sound ty Tryz.prog 117 [.a (.lit (.int .i64 key)), .a (.lit (.int .i64 r)), .a (.lit (.int .i64 d)), .a (.lit (.int .i64 n))] [.a (.lit (.int .i64 (mrow key r d n)))] := by
  refine Sound.of X Tryz.call117 Tryz.func117 rfl rfl (by decide) Tryz.ntmps117 (by simp) ?_
  intro zb
  refine W.seq ?_
  refine W.reg X [] [] [0, 1, 2, 3] [] rfl ⟨⟩ ?_
  refine W.seq ?_
  refine W.seq ?_
  refine W.reg X [] [(10, ⟨false, [.a (.lit (.bool _))]⟩), (14, ⟨false, [.a (.lit (.bool _))]⟩)] [0, 1, 2, 3, 16] [] rfl (by (repeat' (first | with_reducible exact AllP.nil | with_reducible refine AllP.mk ?_ ?_ | with_reducible apply And.intro)) <;> skip; (iterate 1 (all_goals try (first | exact (c_spec_l1In _ _ _) | exact fun _ => (c_spec_l1In _ _ _))))) ?_
  refine W.cond rfl (fun hb0 => ?_) (fun hb0 => ?_)
  · try simp only [nb, inr_t, inr_f, isEmpty_t] at hb0
    refine W.seq ?_
    refine W.reg X [] [] [8] [] rfl ⟨⟩ ?_
    refine W.ret ?_
    exact Fin.ret rfl ⟨by rw [mrow, if_neg (by omega)], ⟨⟩⟩
  · try simp only [nb, inr_t, inr_f, isEmpty_t] at hb0
    have hcs := cs_range (kh key [79, r, d]) 0
    refine W.skip ?_
    refine W.seq ?_
    refine W.reg X [] [(21, ⟨false, [.a (.lit (.int .i64 _))]⟩), (22, ⟨false, [.a (.lit (.int .i64 _))]⟩)] [8] [] rfl (by (repeat' (first | with_reducible exact AllP.nil | with_reducible refine AllP.mk ?_ ?_ | with_reducible apply And.intro)) <;> skip; (iterate 2 (all_goals try (first | exact (c_spec_KeyedHash _ _ (by first | assumption | omega | (simp; done) | (simp; omega))) | exact (c_spec_ChildSeed _ _)))); all_goals (first | (intros; omega) | exact ⟨rfl, El_all _ (by decide)⟩)) ?_
    refine W.ret ?_
    exact Fin.ret rfl ⟨by rw [mrow, if_pos (by omega), tmod_pos hcs.1], ⟨⟩⟩
theorem c_spec_CoverRow (s r n : Int) : Sound ty Tryz.prog 120 [.a (.lit (.int .i64 s)), .a (.lit (.int .i64 r)), .a (.lit (.int .i64 n))] [.a (.lit (.int .i64 (crow s r n)))] := by
  refine Sound.of X Tryz.call120 Tryz.func120 rfl rfl (by decide) Tryz.ntmps120 (by simp) ?_
  intro zb
  refine W.seq ?_
  refine W.reg X [] [] [0, 1, 2] [] rfl ⟨⟩ ?_
  refine W.seq ?_
  refine W.seq ?_
  refine W.reg X [] [(8, ⟨false, [.a (.lit (.bool _))]⟩)] [0, 1, 2, 9] [] rfl (by (repeat' (first | with_reducible exact AllP.nil | with_reducible refine AllP.mk ?_ ?_ | with_reducible apply And.intro)) <;> skip; (iterate 1 (all_goals try (first | exact (c_spec_l1In _ _ _))))) ?_
  refine W.cond rfl (fun hb0 => ?_) (fun hb0 => ?_)
  · try simp only [nb, inr_t, inr_f, isEmpty_t] at hb0
    refine W.seq ?_
    refine W.reg X [] [] [6] [] rfl ⟨⟩ ?_
    refine W.ret ?_
    exact Fin.ret rfl ⟨by rw [crow, if_neg (by omega)], ⟨⟩⟩
  · try simp only [nb, inr_t, inr_f, isEmpty_t] at hb0
    have hcs := cs_range (kh s [157, r]) 0
    refine W.skip ?_
    refine W.seq ?_
    refine W.reg X [] [(13, ⟨false, [.a (.lit (.int .i64 _))]⟩), (14, ⟨false, [.a (.lit (.int .i64 _))]⟩)] [6] [] rfl (by (repeat' (first | with_reducible exact AllP.nil | with_reducible refine AllP.mk ?_ ?_ | with_reducible apply And.intro)) <;> skip; (iterate 2 (all_goals try (first | exact (c_spec_KeyedHash _ _ (by first | assumption | omega | (simp; done) | (simp; omega))) | exact (c_spec_ChildSeed _ _)))); all_goals (first | (intros; omega) | exact ⟨rfl, El_all _ (by decide)⟩)) ?_
    refine W.ret ?_
    exact Fin.ret rfl ⟨by rw [crow, if_pos (by omega), tmod_pos hcs.1], ⟨⟩⟩
theorem c_spec_CoverCell (s : Int) : Sound ty Tryz.prog 121 [.a (.lit (.int .i64 s))] [.a (.sl .u8 (cover s))] := by
  refine Sound.of X Tryz.call121 Tryz.func121 rfl rfl (by decide) Tryz.ntmps121 (by simp) ?_
  intro zb
  refine W.seq ?_
  refine W.reg X [] [] [0] [] rfl ⟨⟩ ?_
  refine W.seq ?_
  refine W.reg X [] [(5, ⟨false, [.a (.lit (.int .i64 _))]⟩), (6, ⟨true, [.a (.sl .u8 _)]⟩)] [2] [] rfl (by (repeat' (first | with_reducible exact AllP.nil | with_reducible refine AllP.mk ?_ ?_ | with_reducible apply And.intro)) <;> skip; (iterate 2 (all_goals try (first | exact (c_spec_KeyedHash _ _ (by first | assumption | omega | (simp; done) | (simp; omega))) | exact (c_spec_StreamBytes _ _ (by first | assumption | omega | (simp; done) | (simp; omega)) (by first | assumption | omega | (simp; done) | (simp; omega)))))); all_goals (first | exact ⟨rfl, El_all _ (by decide)⟩)) ?_
  refine W.ret ?_
  exact Fin.ret rfl ⟨rfl, ⟨⟩⟩
theorem c_impl_cellKey (k c : Int) : Sound ty Tryz.prog 211 [.a (.lit (.int .i64 k)), .a (.lit (.int .i64 c))] [.a (.lit (.int .i64 (ckey k c)))] := by
  refine Sound.of X Tryz.call211 Tryz.func211 rfl rfl (by decide) Tryz.ntmps211 (by simp) ?_
  intro zb
  refine W.seq ?_
  refine W.reg X [] [] [0, 1] [] rfl ⟨⟩ ?_
  refine W.seq ?_
  refine W.reg X [] [(8, ⟨false, [.a (.lit (.int .i64 _))]⟩), (9, ⟨false, [.a (.lit (.int .i64 _))]⟩)] [4] [] rfl (by (repeat' (first | with_reducible exact AllP.nil | with_reducible refine AllP.mk ?_ ?_ | with_reducible apply And.intro)) <;> skip; (iterate 2 (all_goals try (first | exact (c_impl_KeyedHash _ _ (by first | assumption | omega | (simp; done) | (simp; omega))) | exact (c_impl_orOne _)))); all_goals (first | exact ⟨rfl, El_all _ (by decide)⟩)) ?_
  refine W.ret ?_
  exact Fin.ret rfl ⟨rfl, ⟨⟩⟩
theorem c_impl_DirectionKey (k c : Int) : Sound ty Tryz.prog 188 [.a (.lit (.int .i64 k)), .a (.lit (.int .i64 c))] [.a (.lit (.int .i64 (dkey k c)))] := by
  refine Sound.of X Tryz.call188 Tryz.func188 rfl rfl (by decide) Tryz.ntmps188 (by simp) ?_
  intro zb
  refine W.seq ?_
  refine W.reg X [] [] [0, 1] [] rfl ⟨⟩ ?_
  refine W.seq ?_
  refine W.reg X [] [(8, ⟨false, [.a (.lit (.int .i64 _))]⟩), (9, ⟨false, [.a (.lit (.int .i64 _))]⟩)] [4] [] rfl (by (repeat' (first | with_reducible exact AllP.nil | with_reducible refine AllP.mk ?_ ?_ | with_reducible apply And.intro)) <;> skip; (iterate 2 (all_goals try (first | exact (c_impl_KeyedHash _ _ (by first | assumption | omega | (simp; done) | (simp; omega))) | exact (c_impl_orOne _)))); all_goals (first | exact ⟨rfl, El_all _ (by decide)⟩)) ?_
  refine W.ret ?_
  exact Fin.ret rfl ⟨rfl, ⟨⟩⟩
theorem c_spec_l13Cipher (k c : Int) : Sound ty Tryz.prog 203 [.a (.lit (.int .i64 k)), .a (.lit (.int .i64 c))] [.a (.lit (.int .i64 (ckey k c)))] := by
  refine Sound.of X Tryz.call203 Tryz.func203 rfl rfl (by decide) Tryz.ntmps203 (by simp) ?_
  intro zb
  refine W.seq ?_
  refine W.reg X [] [] [0, 1] [] rfl ⟨⟩ ?_
  refine W.seq ?_
  refine W.reg X [] [(8, ⟨false, [.a (.lit (.int .i64 _))]⟩), (9, ⟨false, [.a (.lit (.int .i64 _))]⟩)] [4] [] rfl (by (repeat' (first | with_reducible exact AllP.nil | with_reducible refine AllP.mk ?_ ?_ | with_reducible apply And.intro)) <;> skip; (iterate 2 (all_goals try (first | exact (c_spec_KeyedHash _ _ (by first | assumption | omega | (simp; done) | (simp; omega))) | exact (c_spec_Max _ _)))); all_goals (first | exact ⟨rfl, El_all _ (by decide)⟩)) ?_
  refine W.ret ?_
  exact Fin.ret rfl ⟨by rw [or1_max (kh_range _ _).1]; rfl, ⟨⟩⟩
theorem c_spec_DirectionKey (k c : Int) : Sound ty Tryz.prog 175 [.a (.lit (.int .i64 k)), .a (.lit (.int .i64 c))] [.a (.lit (.int .i64 (dkey k c)))] := by
  refine Sound.of X Tryz.call175 Tryz.func175 rfl rfl (by decide) Tryz.ntmps175 (by simp) ?_
  intro zb
  refine W.seq ?_
  refine W.reg X [] [] [0, 1] [] rfl ⟨⟩ ?_
  refine W.seq ?_
  refine W.reg X [] [(8, ⟨false, [.a (.lit (.int .i64 _))]⟩), (9, ⟨false, [.a (.lit (.int .i64 _))]⟩)] [4] [] rfl (by (repeat' (first | with_reducible exact AllP.nil | with_reducible refine AllP.mk ?_ ?_ | with_reducible apply And.intro)) <;> skip; (iterate 2 (all_goals try (first | exact (c_spec_KeyedHash _ _ (by first | assumption | omega | (simp; done) | (simp; omega))) | exact (c_spec_Max _ _)))); all_goals (first | exact ⟨rfl, El_all _ (by decide)⟩)) ?_
  refine W.ret ?_
  exact Fin.ret rfl ⟨by rw [or1_max (kh_range _ _).1]; rfl, ⟨⟩⟩
theorem c_impl_checkBytes (k c : Int) (l : List UInt8) (hl : l.length ≤ 65536) : Sound ty Tryz.prog 212 [.a (.lit (.int .i64 k)), .a (.lit (.int .i64 c)), .a (.sl .u8 l)] [.a (.sl .u8 (four (ccheck k c l)))] := by
  refine Sound.of X Tryz.call212 Tryz.func212 rfl rfl (by decide) Tryz.ntmps212 (by simp) ?_
  intro zb
  refine W.seq ?_
  refine W.reg X [] [] [0, 1, 2] [] rfl ⟨⟩ ?_
  refine W.seq ?_
  refine W.reg X [] [(11, ⟨false, [.a (.lit (.int .i64 _))]⟩)] [7] [] rfl (by (repeat' (first | with_reducible exact AllP.nil | with_reducible refine AllP.mk ?_ ?_ | with_reducible apply And.intro)) <;> skip; (iterate 1 (all_goals try (first | exact (c_impl_CellCheck _ _ _ (by first | assumption | omega | (simp; done) | (simp; omega))))))) ?_
  refine W.seq ?_
  refine W.reg X [] [] [6] [] rfl (by (repeat' (first | exact True.intro | apply And.intro)) <;> first | (intros; omega) | exact rfl | exact (u8w _).1 | exact (u8w _).2) ?_
  refine W.ret ?_
  exact Fin.ret rfl ⟨four_eq _, ⟨⟩⟩
end Go.Proofs.YthjedjndamejmaaGreat.G
namespace Go.Proofs.YthjedjndamejmaaGreat.G
set_option linter.all false
open Go.RowKit L D
set_option maxRecDepth 100000
theorem c_slices_IndexFunc_byte_byte (l : List (List UInt8)) (f : FuncId) (p : (List UInt8) → Bool) (hf : ∀ b, Sound ty Tryz.prog f [.a (.sl .u8 b)] [.a (.lit (.bool (p b)))]) : Sound ty Tryz.prog 206 [.a (.sl (.sl .u8) l), .a (.lit (.func (.func f) #[] #[]))] [.a (.lit (.int .i64 (fidx p l)))] := by
  refine Sound.of X Tryz.call206 Tryz.func206 rfl rfl (by decide) Tryz.ntmps206 (by simp) ?_
  intro zb
  refine W.bound 0 rfl (fun hll => ?_)
  refine W.seq ?_
  refine W.reg X [] [] [0, 1] [] rfl ⟨⟩ ?_
  refine W.seq ?_
  refine W.seq ?_
  refine W.reg X [] [] [0, 1, 7, 8] [] rfl ⟨⟩ ?_
  refine W.block ?_
  refine W.loopO (fun k => k ≤ l.length ∧ (l.take k).any p = false) (fun k : Nat => [(8, .one (.a (.lit (.int .i64 k))))]) (fun k => []) (fun k => l.length - k) 0 (fun k => rfl) ⟨Nat.zero_le _, rfl⟩ rfl ?_
  rintro k ⟨hk, hall⟩
  refine W.seq ?_
  refine W.reg X [] [] [0, 1, 7, 8, 9] [] rfl ⟨⟩ ?_
  refine W.seq ?_
  refine W.cond rfl (fun hb0 => ?_) (fun hb0 => ?_)
  · try simp only [nb, inr_t, inr_f, isEmpty_t] at hb0
    refine W.skip ?_
    refine W.seq ?_
    refine W.block ?_
    refine W.seq ?_
    refine W.reg X [] [] [0, 1, 5, 7, 8] [] rfl ⟨⟩ ?_
    refine W.seq ?_
    refine W.reg X [] [(16, ⟨false, [.a (.lit (.bool (p (l.getD k (dfl (.sl .u8))))))]⟩)] [0, 1, 5, 7, 8, 16] [] rfl (by (repeat' (first | with_reducible exact AllP.nil | with_reducible refine AllP.mk ?_ ?_ | with_reducible apply And.intro)) <;> skip; (iterate 1 (all_goals try (first | exact (hf _)))); all_goals (first | (intros; omega))) ?_
    refine W.cond rfl (fun hb1 => ?_) (fun hb1 => ?_)
    · skip
      refine W.seq ?_
      refine W.reg X [] [] [4] [] rfl ⟨⟩ ?_
      refine W.ret ?_
      exact Fin.ret rfl ⟨by rw [fidx_hit (dfl (.sl .u8)) hb0 hall hb1], ⟨⟩⟩
    · skip
      refine W.skip ?_
      refine W.reg X [] [] [0, 1, 7, 8] [] rfl ⟨⟩ ?_
      refine ⟨k + 1, ⟨by omega, any_no (dfl (.sl .u8)) hb0 hall hb1⟩, by omega, ?_⟩
      rw [wadd _ k rfl (by omega)]
      try rfl
  · try simp only [nb, inr_t, inr_f, isEmpty_t] at hb0
    refine W.exit ?_
    refine W.seq ?_
    refine W.reg X [] [] [4] [] rfl ⟨⟩ ?_
    refine W.ret ?_
    exact Fin.ret rfl ⟨by rw [fidx_miss (by rw [← hall, List.take_of_length_le hb0])], ⟨⟩⟩
theorem c_slices_ContainsFunc_byte_byte (l : List (List UInt8)) (f : FuncId) (p : (List UInt8) → Bool) (hf : ∀ b, Sound ty Tryz.prog f [.a (.sl .u8 b)] [.a (.lit (.bool (p b)))]) : Sound ty Tryz.prog 182 [.a (.sl (.sl .u8) l), .a (.lit (.func (.func f) #[] #[]))] [.a (.lit (.bool (l.any p)))] := by
  refine Sound.of X Tryz.call182 Tryz.func182 rfl rfl (by decide) Tryz.ntmps182 (by simp) ?_
  intro zb
  refine W.seq ?_
  refine W.reg X [] [] [0, 1] [] rfl ⟨⟩ ?_
  refine W.seq ?_
  refine W.reg X [] [(7, ⟨false, [.a (.lit (.int .i64 (fidx p l)))]⟩)] [4] [] rfl (by (repeat' (first | with_reducible exact AllP.nil | with_reducible refine AllP.mk ?_ ?_ | with_reducible apply And.intro)) <;> skip; (iterate 1 (all_goals try (first | exact (c_slices_IndexFunc_byte_byte l f p hf))))) ?_
  refine W.ret ?_
  exact Fin.ret rfl ⟨congrArg Value.bool (fidx_ge p l), ⟨⟩⟩
theorem c_impl_IsValidDatabase_1 (b : List UInt8) : Sound ty Tryz.prog 183 [.a (.sl .u8 b)] [.a (.lit (.bool (!decide ((b.length : Int) = 24))))] := by
  refine Sound.of X Tryz.call183 Tryz.func183 rfl rfl (by decide) Tryz.ntmps183 (by simp) ?_
  intro zb
  refine W.seq ?_
  refine W.reg X [] [] [0] [] rfl ⟨⟩ ?_
  refine W.seq ?_
  refine W.reg X [] [] [2] [] rfl ⟨⟩ ?_
  refine W.ret ?_
  exact Fin.ret rfl ⟨(congrArg Value.bool (by simp only [ite_tt, ite_ff, gt_iff_lt, ge_iff_le, not_dlt, not_dle, bne_not, deq, decide_not, ne_eq, Bool.not_and, Bool.not_or, Bool.not_not, Bool.and_true, Bool.true_and, Bool.or_false, Bool.false_or, Int.toNat_natCast] <;> first | rfl | ac_rfl)), ⟨⟩⟩
theorem c_impl_IsValidDatabase (d : DB) : Sound ty Tryz.prog 133 [.agg (dec_DB d)] [.a (.lit (.bool (okDB d)))] := by
  refine Sound.of X Tryz.call133 Tryz.func133 rfl rfl (by decide) Tryz.ntmps133 (by simp) ?_
  intro zb
  refine W.seq ?_
  refine W.reg X [] [] [1] [] rfl ⟨⟩ ?_
  refine W.seq ?_
  refine W.reg X [] [(10, ⟨false, [.a (.lit (.bool (d.rows.any fun b => !decide ((b.length : Int) = 24))))]⟩)] [2] [] rfl (by (repeat' (first | with_reducible exact AllP.nil | with_reducible refine AllP.mk ?_ ?_ | with_reducible apply And.intro)) <;> skip; (iterate 1 (all_goals try (first | exact fun _ => (c_slices_ContainsFunc_byte_byte _ _ _ c_impl_IsValidDatabase_1))))) ?_
  refine W.ret ?_
  exact Fin.ret rfl ⟨by unfold okDB; rw [any_not_all]; by_cases h : (d.rows.length : Int) ≤ 64 <;> simp [h], ⟨⟩⟩
theorem c_spec_IsValidDatabase (d : DB) : Sound ty Tryz.prog 114 [.agg (dec_DB d)] [.a (.lit (.bool (okDB d)))] := by
  refine Sound.of X Tryz.call114 Tryz.func114 rfl rfl (by decide) Tryz.ntmps114 (by simp) ?_
  intro zb
  refine W.boundA 0 0 rfl rfl (fun hll => ?_)
  refine W.seq ?_
  refine W.reg X [] [] [1] [] rfl ⟨⟩ ?_
  refine W.seq ?_
  refine W.seq ?_
  refine W.reg X [] [] [1, 3] [] rfl ⟨⟩ ?_
  refine W.block ?_
  refine W.loopO (fun k => k ≤ d.rows.length ∧ (d.rows.take k).all (fun r => decide ((r.length : Int) = 24)) = true) (fun k : Nat => [(3, .one (.a (.lit (.int .i64 k))))]) (fun k => []) (fun k => d.rows.length - k) 0 (fun k => rfl) ⟨Nat.zero_le _, rfl⟩ rfl ?_
  rintro k ⟨hk, hall⟩
  refine W.seq ?_
  refine W.seq ?_
  refine W.reg X [] [] [1, 3, 8] [] rfl ⟨⟩ ?_
  refine W.cond rfl (fun hb0 => ?_) (fun hb0 => ?_)
  · try simp only [nb, inr_t, inr_f, isEmpty_t] at hb0
    refine W.skip ?_
    refine W.seq ?_
    refine W.block ?_
    refine W.seq ?_
    refine W.reg X [] [] [1, 3, 17] [] rfl (by (repeat' (first | exact True.intro | apply And.intro)) <;> first | (intros; omega)) ?_
    refine W.cond rfl (fun hb1 => ?_) (fun hb1 => ?_)
    · try simp only [nb, inr_t, inr_f, isEmpty_t] at hb1
      refine W.seq ?_
      refine W.reg X [] [] [2] [] rfl ⟨⟩ ?_
      refine W.ret ?_
      exact Fin.ret rfl ⟨by unfold okDB; rw [all_no _ _ (dfl (.sl .u8)) k hb0 (by simpa using hb1)]; simp, ⟨⟩⟩
    · try simp only [nb, inr_t, inr_f, isEmpty_t] at hb1
      refine W.skip ?_
      refine W.reg X [] [] [1, 3] [] rfl ⟨⟩ ?_
      refine ⟨k + 1, ⟨by omega, by rw [all_snoc _ _ _ (dfl (.sl .u8)) hb0, hall]; simpa using hb1⟩, by omega, ?_⟩
      rw [wadd _ k rfl (by omega)]
      try rfl
  · try simp only [nb, inr_t, inr_f, isEmpty_t] at hb0
    refine W.exit ?_
    refine W.seq ?_
    refine W.reg X [] [] [2] [] rfl ⟨⟩ ?_
    refine W.ret ?_
    exact Fin.ret rfl ⟨by rw [List.take_of_length_le hb0] at hall; unfold okDB; rw [hall]; simp, ⟨⟩⟩
theorem c_impl_LastRound (a : Arc) : Sound ty Tryz.prog 81 [.agg (dec_Arc a)] [.a (.lit (.int .i64 (lastR a)))] := by
  refine Sound.of X Tryz.call81 Tryz.func81 rfl rfl (by decide) Tryz.ntmps81 (by simp) ?_
  intro zb
  refine W.boundA 0 1 rfl rfl (fun hll => ?_)
  refine W.seq ?_
  refine W.reg X [] [] [1] [] rfl ⟨⟩ ?_
  refine W.seq ?_
  refine W.seq ?_
  refine W.reg X [] [] [1, 6] [] rfl ⟨⟩ ?_
  refine W.cond rfl (fun hb0 => ?_) (fun hb0 => ?_)
  · try simp only [nb, inr_t, inr_f, isEmpty_t] at hb0
    refine W.seq ?_
    refine W.reg X [] [] [2] [] rfl ⟨⟩ ?_
    refine W.ret ?_
    exact Fin.ret rfl ⟨by rw [lastR, if_pos (by omega)], ⟨⟩⟩
  · try simp only [nb, inr_t, inr_f, isEmpty_t] at hb0
    refine W.skip ?_
    refine W.seq ?_
    refine W.reg X [] [] [2] [] rfl (by (repeat' (first | exact True.intro | apply And.intro)) <;> first | ((try simp only [nb, inr_t, inr_f] at *); (simp (disch := omega) only [i64w]); omega)) ?_
    refine W.ret ?_
    exact Fin.ret rfl ⟨by rw [lastR, if_neg (by omega), i64w (by omega)]; congr 4; omega, ⟨⟩⟩
theorem c_spec_LastRound (a : Arc) : Sound ty Tryz.prog 61 [.agg (dec_Arc a)] [.a (.lit (.int .i64 (lastR a)))] := by
  refine Sound.of X Tryz.call61 Tryz.func61 rfl rfl (by decide) Tryz.ntmps61 (by simp) ?_
  intro zb
  refine W.boundA 0 1 rfl rfl (fun hll => ?_)
  refine W.seq ?_
  refine W.reg X [] [] [1] [] rfl ⟨⟩ ?_
  refine W.seq ?_
  refine W.seq ?_
  refine W.reg X [] [] [1, 6] [] rfl ⟨⟩ ?_
  refine W.cond rfl (fun hb0 => ?_) (fun hb0 => ?_)
  · try simp only [nb, inr_t, inr_f, isEmpty_t] at hb0
    refine W.seq ?_
    refine W.reg X [] [] [2] [] rfl ⟨⟩ ?_
    refine W.ret ?_
    exact Fin.ret rfl ⟨by rw [lastR, if_pos (by omega)], ⟨⟩⟩
  · try simp only [nb, inr_t, inr_f, isEmpty_t] at hb0
    refine W.skip ?_
    refine W.seq ?_
    refine W.reg X [] [] [2] [] rfl (by (repeat' (first | exact True.intro | apply And.intro)) <;> first | ((try simp only [nb, inr_t, inr_f] at *); (simp (disch := omega) only [i64w]); omega)) ?_
    refine W.ret ?_
    exact Fin.ret rfl ⟨by rw [lastR, if_neg (by omega), i64w (by omega)]; congr 4; omega, ⟨⟩⟩
theorem c_impl_IsValidServer (s : Srv) : Sound ty Tryz.prog 83 [.agg (dec_Srv s)] [.a (.lit (.bool (okSrv s)))] := by
  refine Sound.of X Tryz.call83 Tryz.func83 rfl rfl (by decide) Tryz.ntmps83 (by simp) ?_
  intro zb
  refine W.boundA 0 3 rfl rfl (fun hll => ?_)
  refine W.seq ?_
  refine W.reg X [] [] [1] [] rfl ⟨⟩ ?_
  refine W.seq ?_
  refine W.seq ?_
  refine W.reg X [] [(7, ⟨false, [.a (.lit (.bool (inr s.id 0 3)))]⟩), (12, ⟨false, [.a (.lit (.bool (inr s.rows 1 64)))]⟩), (18, ⟨false, [.a (.lit (.bool (inr s.behavior 0 3)))]⟩), (24, ⟨false, [.a (.lit (.bool (inr s.round 0 100000)))]⟩)] [1, 32] [] rfl (by (repeat' (first | with_reducible exact AllP.nil | with_reducible refine AllP.mk ?_ ?_ | with_reducible apply And.intro)) <;> skip; (iterate 4 (all_goals try (first | exact (c_impl_InRange s.id 0 3) | exact fun _ => (c_impl_InRange s.rows 1 64) | exact fun _ => (c_impl_InRange s.behavior 0 3) | exact fun _ => (c_impl_InRange s.round 0 100000))))) ?_
  refine W.cond rfl (fun hb0 => ?_) (fun hb0 => ?_)
  · skip
    refine W.seq ?_
    refine W.reg X [] [] [2] [] rfl ⟨⟩ ?_
    refine W.ret ?_
    exact Fin.ret rfl ⟨by rw [show okSrv s = false from or_no hb0 (by simp only [hdSrv, ite_tt, ite_ff, gt_iff_lt, ge_iff_le, not_dlt, not_dle, bne_not, deq, decide_not, ne_eq, Bool.not_and, Bool.not_or, Bool.not_not, Bool.and_true, Bool.true_and, Bool.or_false, Bool.false_or, Int.toNat_natCast] <;> first | rfl | ac_rfl)], ⟨⟩⟩
  · have hh : hdSrv s = true := or_yes hb0 (by simp only [hdSrv, ite_tt, ite_ff, gt_iff_lt, ge_iff_le, not_dlt, not_dle, bne_not, deq, decide_not, ne_eq, Bool.not_and, Bool.not_or, Bool.not_not, Bool.and_true, Bool.true_and, Bool.or_false, Bool.false_or, Int.toNat_natCast] <;> first | rfl | ac_rfl)
    refine W.skip ?_
    refine W.seq ?_
    refine W.seq ?_
    refine W.reg X [] [] [1, 34, 35, 36] [] rfl ⟨⟩ ?_
    refine W.block ?_
    refine W.loopO (fun k => k ≤ s.received.length ∧ (List.range k).all (okRec s.rows s.received) = true) (fun k : Nat => [(36, .one (.a (.lit (.int .i64 k))))]) (fun k => []) (fun k => s.received.length - k) 0 (fun k => rfl) ⟨Nat.zero_le _, rfl⟩ rfl ?_
    rintro k ⟨hk, hall⟩
    have hw : (IntKind.i64.wrap ((k : Int) - 1)).toNat = k - 1 := by rw [i64w (by omega)]; omega
    refine W.seq ?_
    refine W.reg X [] [] [1, 34, 35, 36, 37] [] rfl ⟨⟩ ?_
    refine W.seq ?_
    refine W.cond rfl (fun hb1 => ?_) (fun hb1 => ?_)
    · try simp only [nb, inr_t, inr_f, isEmpty_t] at hb1
      refine W.skip ?_
      refine W.seq ?_
      refine W.block ?_
      refine W.seq ?_
      refine W.reg X [] [] [1, 3, 4, 34, 35, 36] [] rfl (by (repeat' (first | exact True.intro | apply And.intro)) <;> first | (intros; omega)) ?_
      refine W.seq ?_
      refine W.draw X [] [(43, ⟨false, [.a (.lit (.bool (inr ((s.received.getD k (dfl .RShare)).client) 0 7)))]⟩), (64, ⟨false, [.a (.lit (.bool (okDB ((s.received.getD k (dfl .RShare)).share))))]⟩)] [1, 34, 35, 36, 75] [] 35 MO (by kernel_rfl) rfl (by (repeat' (first | with_reducible exact AllP.nil | with_reducible refine AllP.mk ?_ ?_ | with_reducible apply And.intro)) <;> skip; (iterate 2 (all_goals try (first | exact (c_impl_InRange ((s.received.getD k (dfl .RShare)).client) 0 7) | exact fun _ => (c_impl_IsValidDatabase ((s.received.getD k (dfl .RShare)).share))))); all_goals (first | ((intro h1; first | (intro h2; first | (intro h3; refine And.intro ?_ ?_) | refine And.intro ?_ ?_) | refine And.intro ?_ ?_) <;> first | omega | ((try simp only [nb, inr_t, inr_f] at *); (try simp (disch := omega) only [i64w]); omega)))) ?_
      refine W.cond rfl (fun hb2 => ?_) (fun hb2 => ?_)
      · have hk2 : okRec s.rows s.received k = false := or_no1 hb2 (by simp only [hw, okRec, ite_tt, ite_ff, gt_iff_lt, ge_iff_le, not_dlt, not_dle, bne_not, deq, decide_not, ne_eq, Bool.not_and, Bool.not_or, Bool.not_not, Bool.and_true, Bool.true_and, Bool.or_false, Bool.false_or, Int.toNat_natCast] <;> first | rfl | ac_rfl)
        refine W.seq ?_
        refine W.reg X [] [] [2] [] rfl ⟨⟩ ?_
        refine W.ret ?_
        exact Fin.ret rfl ⟨by rw [show okSrv s = false by unfold okSrv; rw [range_no hb1 hk2]; simp], ⟨⟩⟩
      · have hk2 : okRec s.rows s.received k = true := or_yes hb2 (by simp only [hw, okRec, ite_tt, ite_ff, gt_iff_lt, ge_iff_le, not_dlt, not_dle, bne_not, deq, decide_not, ne_eq, Bool.not_and, Bool.not_or, Bool.not_not, Bool.and_true, Bool.true_and, Bool.or_false, Bool.false_or, Int.toNat_natCast] <;> first | rfl | ac_rfl)
        refine W.skip ?_
        refine W.reg X [] [] [1, 34, 35, 36] [] rfl ⟨⟩ ?_
        refine ⟨k + 1, ⟨by omega, range_all hall hk2⟩, by omega, ?_⟩
        rw [wadd _ k rfl (by omega)]
        try rfl
    · try simp only [nb, inr_t, inr_f, isEmpty_t] at hb1
      have hall2 : (List.range s.received.length).all (okRec s.rows s.received) = true := by rw [show s.received.length = k by omega]; exact hall
      refine W.exit ?_
      refine W.seq ?_
      refine W.reg X [] [] [2] [] rfl ⟨⟩ ?_
      refine W.ret ?_
      exact Fin.ret rfl ⟨by rw [show okSrv s = true by unfold okSrv; rw [hh, hall2]; rfl], ⟨⟩⟩
theorem c_impl_IsValidArchive (a : Arc) : Sound ty Tryz.prog 80 [.agg (dec_Arc a)] [.a (.lit (.bool (okArc a)))] := by
  refine Sound.of X Tryz.call80 Tryz.func80 rfl rfl (by decide) Tryz.ntmps80 (by simp) ?_
  intro zb
  refine W.boundA 0 1 rfl rfl (fun hll => ?_)
  refine W.seq ?_
  refine W.reg X [] [] [1] [] rfl ⟨⟩ ?_
  refine W.seq ?_
  refine W.seq ?_
  refine W.reg X [] [] [1, 6, 7, 8] [] rfl ⟨⟩ ?_
  refine W.block ?_
  refine W.loopO (fun k => k ≤ a.rounds.length ∧ (List.range k).all (okAr a.rows a.rounds) = true) (fun k : Nat => [(8, .one (.a (.lit (.int .i64 k))))]) (fun k => []) (fun k => a.rounds.length - k) 0 (fun k => rfl) ⟨Nat.zero_le _, rfl⟩ rfl ?_
  rintro k ⟨hk, hall⟩
  have hw : (IntKind.i64.wrap ((k : Int) - 1)).toNat = k - 1 := by rw [i64w (by omega)]; omega
  refine W.seq ?_
  refine W.reg X [] [] [1, 6, 7, 8, 9] [] rfl ⟨⟩ ?_
  refine W.seq ?_
  refine W.cond rfl (fun hb0 => ?_) (fun hb0 => ?_)
  · try simp only [nb, inr_t, inr_f, isEmpty_t] at hb0
    refine W.skip ?_
    refine W.seq ?_
    refine W.block ?_
    refine W.seq ?_
    refine W.reg X [] [] [1, 3, 4, 6, 7, 8] [] rfl (by (repeat' (first | exact True.intro | apply And.intro)) <;> first | (intros; omega)) ?_
    refine W.seq ?_
    refine W.draw X [] [(15, ⟨false, [.a (.lit (.bool (inr ((a.rounds.getD k (dfl .ARound)).round) 0 100000)))]⟩), (36, ⟨false, [.a (.lit (.bool (okDB ((a.rounds.getD k (dfl .ARound)).db))))]⟩)] [1, 6, 7, 8, 47] [] 35 MO (by kernel_rfl) rfl (by (repeat' (first | with_reducible exact AllP.nil | with_reducible refine AllP.mk ?_ ?_ | with_reducible apply And.intro)) <;> skip; (iterate 2 (all_goals try (first | exact (c_impl_InRange ((a.rounds.getD k (dfl .ARound)).round) 0 100000) | exact fun _ => (c_impl_IsValidDatabase ((a.rounds.getD k (dfl .ARound)).db))))); all_goals (first | ((intro h1; first | (intro h2; first | (intro h3; refine And.intro ?_ ?_) | refine And.intro ?_ ?_) | refine And.intro ?_ ?_) <;> first | omega | ((try simp only [nb, inr_t, inr_f] at *); (try simp (disch := omega) only [i64w]); omega)))) ?_
    refine W.cond rfl (fun hb1 => ?_) (fun hb1 => ?_)
    · have hk2 : okAr a.rows a.rounds k = false := or_no1 hb1 (by simp only [hw, okAr, ite_tt, ite_ff, gt_iff_lt, ge_iff_le, not_dlt, not_dle, bne_not, deq, decide_not, ne_eq, Bool.not_and, Bool.not_or, Bool.not_not, Bool.and_true, Bool.true_and, Bool.or_false, Bool.false_or, Int.toNat_natCast] <;> first | rfl | ac_rfl)
      refine W.seq ?_
      refine W.reg X [] [] [2] [] rfl ⟨⟩ ?_
      refine W.ret ?_
      exact Fin.ret rfl ⟨by rw [show okArc a = false by unfold okArc; rw [range_no hb0 hk2]; simp], ⟨⟩⟩
    · have hk2 : okAr a.rows a.rounds k = true := or_yes hb1 (by simp only [hw, okAr, ite_tt, ite_ff, gt_iff_lt, ge_iff_le, not_dlt, not_dle, bne_not, deq, decide_not, ne_eq, Bool.not_and, Bool.not_or, Bool.not_not, Bool.and_true, Bool.true_and, Bool.or_false, Bool.false_or, Int.toNat_natCast] <;> first | rfl | ac_rfl)
      refine W.skip ?_
      refine W.reg X [] [] [1, 6, 7, 8] [] rfl ⟨⟩ ?_
      refine ⟨k + 1, ⟨by omega, range_all hall hk2⟩, by omega, ?_⟩
      rw [wadd _ k rfl (by omega)]
      try rfl
  · try simp only [nb, inr_t, inr_f, isEmpty_t] at hb0
    have hall2 : (List.range a.rounds.length).all (okAr a.rows a.rounds) = true := by rw [show a.rounds.length = k by omega]; exact hall
    refine W.exit ?_
    refine W.seq ?_
    refine W.reg X [] [(51, ⟨false, [.a (.lit (.bool (inr a.rows 1 64)))]⟩)] [2] [] rfl (by (repeat' (first | with_reducible exact AllP.nil | with_reducible refine AllP.mk ?_ ?_ | with_reducible apply And.intro)) <;> skip; (iterate 1 (all_goals try (first | exact (c_impl_InRange a.rows 1 64))))) ?_
    refine W.ret ?_
    exact Fin.ret rfl ⟨(congrArg Value.bool (by simp only [okArc, hdArc, hall2, ite_tt, ite_ff, gt_iff_lt, ge_iff_le, not_dlt, not_dle, bne_not, deq, decide_not, ne_eq, Bool.not_and, Bool.not_or, Bool.not_not, Bool.and_true, Bool.true_and, Bool.or_false, Bool.false_or, Int.toNat_natCast] <;> first | rfl | ac_rfl)), ⟨⟩⟩
theorem c_spec_IsValidServer (s : Srv) : Sound ty Tryz.prog 70 [.agg (dec_Srv s)] [.a (.lit (.bool (okSrv s)))] := by
  refine Sound.of X Tryz.call70 Tryz.func70 rfl rfl (by decide) Tryz.ntmps70 (by simp) ?_
  intro zb
  refine W.boundA 0 3 rfl rfl (fun hll => ?_)
  refine W.seq ?_
  refine W.reg X [] [] [1] [] rfl ⟨⟩ ?_
  refine W.seq ?_
  refine W.seq ?_
  refine W.reg X [] [] [1, 3] [] rfl ⟨⟩ ?_
  refine W.block ?_
  refine W.loopO (fun k => k ≤ s.received.length ∧ (List.range k).all (okRec s.rows s.received) = true) (fun k : Nat => [(3, .one (.a (.lit (.int .i64 k))))]) (fun k => []) (fun k => s.received.length - k) 0 (fun k => rfl) ⟨Nat.zero_le _, rfl⟩ rfl ?_
  rintro k ⟨hk, hall⟩
  have hw : (IntKind.i64.wrap ((k : Int) - 1)).toNat = k - 1 := by rw [i64w (by omega)]; omega
  refine W.seq ?_
  refine W.seq ?_
  refine W.reg X [] [] [1, 3, 9] [] rfl ⟨⟩ ?_
  refine W.cond rfl (fun hb0 => ?_) (fun hb0 => ?_)
  · try simp only [nb, inr_t, inr_f, isEmpty_t] at hb0
    refine W.skip ?_
    refine W.seq ?_
    refine W.block ?_
    refine W.seq ?_
    refine W.reg X [] [] [1, 3, 4] [] rfl (by (repeat' (first | exact True.intro | apply And.intro)) <;> first | (intros; omega)) ?_
    refine W.seq ?_
    refine W.draw X [] [(19, ⟨false, [.a (.lit (.bool (inr ((s.received.getD k (dfl .RShare)).client) 0 7)))]⟩), (40, ⟨false, [.a (.lit (.bool (okDB ((s.received.getD k (dfl .RShare)).share))))]⟩)] [1, 3, 51] [] 35 MO (by kernel_rfl) rfl (by (repeat' (first | with_reducible exact AllP.nil | with_reducible refine AllP.mk ?_ ?_ | with_reducible apply And.intro)) <;> skip; (iterate 2 (all_goals try (first | exact (c_spec_l1In ((s.received.getD k (dfl .RShare)).client) 0 7) | exact fun _ => (c_spec_IsValidDatabase ((s.received.getD k (dfl .RShare)).share))))); all_goals (first | ((intro h1; first | (intro h2; first | (intro h3; refine And.intro ?_ ?_) | refine And.intro ?_ ?_) | refine And.intro ?_ ?_) <;> first | omega | ((try simp only [nb, inr_t, inr_f] at *); (try simp (disch := omega) only [i64w]); omega)))) ?_
    refine W.cond rfl (fun hb1 => ?_) (fun hb1 => ?_)
    · have hk2 : okRec s.rows s.received k = false := or_no1 hb1 (by simp only [hw, okRec, ite_tt, ite_ff, gt_iff_lt, ge_iff_le, not_dlt, not_dle, bne_not, deq, decide_not, ne_eq, Bool.not_and, Bool.not_or, Bool.not_not, Bool.and_true, Bool.true_and, Bool.or_false, Bool.false_or, Int.toNat_natCast] <;> first | rfl | ac_rfl)
      refine W.seq ?_
      refine W.reg X [] [] [2] [] rfl ⟨⟩ ?_
      refine W.ret ?_
      exact Fin.ret rfl ⟨by rw [show okSrv s = false by unfold okSrv; rw [range_no hb0 hk2]; simp], ⟨⟩⟩
    · have hk2 : okRec s.rows s.received k = true := or_yes hb1 (by simp only [hw, okRec, ite_tt, ite_ff, gt_iff_lt, ge_iff_le, not_dlt, not_dle, bne_not, deq, decide_not, ne_eq, Bool.not_and, Bool.not_or, Bool.not_not, Bool.and_true, Bool.true_and, Bool.or_false, Bool.false_or, Int.toNat_natCast] <;> first | rfl | ac_rfl)
      refine W.skip ?_
      refine W.reg X [] [] [1, 3] [] rfl ⟨⟩ ?_
      refine ⟨k + 1, ⟨by omega, range_all hall hk2⟩, by omega, ?_⟩
      rw [wadd _ k rfl (by omega)]
      try rfl
  · try simp only [nb, inr_t, inr_f, isEmpty_t] at hb0
    have hall2 : (List.range s.received.length).all (okRec s.rows s.received) = true := by rw [show s.received.length = k by omega]; exact hall
    refine W.exit ?_
    refine W.seq ?_
    refine W.reg X [] [(54, ⟨false, [.a (.lit (.bool (inr s.id 0 3)))]⟩), (58, ⟨false, [.a (.lit (.bool (inr s.rows 1 64)))]⟩), (63, ⟨false, [.a (.lit (.bool (inr s.behavior 0 3)))]⟩), (68, ⟨false, [.a (.lit (.bool (inr s.round 0 100000)))]⟩)] [2] [] rfl (by (repeat' (first | with_reducible exact AllP.nil | with_reducible refine AllP.mk ?_ ?_ | with_reducible apply And.intro)) <;> skip; (iterate 4 (all_goals try (first | exact (c_spec_l1In s.id 0 3) | exact fun _ => (c_spec_l1In s.rows 1 64) | exact fun _ => (c_spec_l1In s.behavior 0 3) | exact fun _ => (c_spec_l1In s.round 0 100000))))) ?_
    refine W.ret ?_
    exact Fin.ret rfl ⟨(congrArg Value.bool (by simp only [okSrv, hdSrv, hall2, ite_tt, ite_ff, gt_iff_lt, ge_iff_le, not_dlt, not_dle, bne_not, deq, decide_not, ne_eq, Bool.not_and, Bool.not_or, Bool.not_not, Bool.and_true, Bool.true_and, Bool.or_false, Bool.false_or, Int.toNat_natCast] <;> first | rfl | ac_rfl)), ⟨⟩⟩
theorem c_spec_IsValidArchive (a : Arc) : Sound ty Tryz.prog 60 [.agg (dec_Arc a)] [.a (.lit (.bool (okArc a)))] := by
  refine Sound.of X Tryz.call60 Tryz.func60 rfl rfl (by decide) Tryz.ntmps60 (by simp) ?_
  intro zb
  refine W.boundA 0 1 rfl rfl (fun hll => ?_)
  refine W.seq ?_
  refine W.reg X [] [] [1] [] rfl ⟨⟩ ?_
  refine W.seq ?_
  refine W.seq ?_
  refine W.reg X [] [] [1, 3] [] rfl ⟨⟩ ?_
  refine W.block ?_
  refine W.loopO (fun k => k ≤ a.rounds.length ∧ (List.range k).all (okAr a.rows a.rounds) = true) (fun k : Nat => [(3, .one (.a (.lit (.int .i64 k))))]) (fun k => []) (fun k => a.rounds.length - k) 0 (fun k => rfl) ⟨Nat.zero_le _, rfl⟩ rfl ?_
  rintro k ⟨hk, hall⟩
  have hw : (IntKind.i64.wrap ((k : Int) - 1)).toNat = k - 1 := by rw [i64w (by omega)]; omega
  refine W.seq ?_
  refine W.seq ?_
  refine W.reg X [] [] [1, 3, 9] [] rfl ⟨⟩ ?_
  refine W.cond rfl (fun hb0 => ?_) (fun hb0 => ?_)
  · try simp only [nb, inr_t, inr_f, isEmpty_t] at hb0
    refine W.skip ?_
    refine W.seq ?_
    refine W.block ?_
    refine W.seq ?_
    refine W.reg X [] [] [1, 3, 4] [] rfl (by (repeat' (first | exact True.intro | apply And.intro)) <;> first | (intros; omega)) ?_
    refine W.seq ?_
    refine W.draw X [] [(19, ⟨false, [.a (.lit (.bool (inr ((a.rounds.getD k (dfl .ARound)).round) 0 100000)))]⟩), (40, ⟨false, [.a (.lit (.bool (okDB ((a.rounds.getD k (dfl .ARound)).db))))]⟩)] [1, 3, 51] [] 35 MO (by kernel_rfl) rfl (by (repeat' (first | with_reducible exact AllP.nil | with_reducible refine AllP.mk ?_ ?_ | with_reducible apply And.intro)) <;> skip; (iterate 2 (all_goals try (first | exact (c_spec_l1In ((a.rounds.getD k (dfl .ARound)).round) 0 100000) | exact fun _ => (c_spec_IsValidDatabase ((a.rounds.getD k (dfl .ARound)).db))))); all_goals (first | ((intro h1; first | (intro h2; first | (intro h3; refine And.intro ?_ ?_) | refine And.intro ?_ ?_) | refine And.intro ?_ ?_) <;> first | omega | ((try simp only [nb, inr_t, inr_f] at *); (try simp (disch := omega) only [i64w]); omega)))) ?_
    refine W.cond rfl (fun hb1 => ?_) (fun hb1 => ?_)
    · have hk2 : okAr a.rows a.rounds k = false := or_no1 hb1 (by simp only [hw, okAr, ite_tt, ite_ff, gt_iff_lt, ge_iff_le, not_dlt, not_dle, bne_not, deq, decide_not, ne_eq, Bool.not_and, Bool.not_or, Bool.not_not, Bool.and_true, Bool.true_and, Bool.or_false, Bool.false_or, Int.toNat_natCast] <;> first | rfl | ac_rfl)
      refine W.seq ?_
      refine W.reg X [] [] [2] [] rfl ⟨⟩ ?_
      refine W.ret ?_
      exact Fin.ret rfl ⟨by rw [show okArc a = false by unfold okArc; rw [range_no hb0 hk2]; simp], ⟨⟩⟩
    · have hk2 : okAr a.rows a.rounds k = true := or_yes hb1 (by simp only [hw, okAr, ite_tt, ite_ff, gt_iff_lt, ge_iff_le, not_dlt, not_dle, bne_not, deq, decide_not, ne_eq, Bool.not_and, Bool.not_or, Bool.not_not, Bool.and_true, Bool.true_and, Bool.or_false, Bool.false_or, Int.toNat_natCast] <;> first | rfl | ac_rfl)
      refine W.skip ?_
      refine W.reg X [] [] [1, 3] [] rfl ⟨⟩ ?_
      refine ⟨k + 1, ⟨by omega, range_all hall hk2⟩, by omega, ?_⟩
      rw [wadd _ k rfl (by omega)]
      try rfl
  · try simp only [nb, inr_t, inr_f, isEmpty_t] at hb0
    have hall2 : (List.range a.rounds.length).all (okAr a.rows a.rounds) = true := by rw [show a.rounds.length = k by omega]; exact hall
    refine W.exit ?_
    refine W.seq ?_
    refine W.reg X [] [(54, ⟨false, [.a (.lit (.bool (inr a.rows 1 64)))]⟩)] [2] [] rfl (by (repeat' (first | with_reducible exact AllP.nil | with_reducible refine AllP.mk ?_ ?_ | with_reducible apply And.intro)) <;> skip; (iterate 1 (all_goals try (first | exact (c_spec_l1In a.rows 1 64))))) ?_
    refine W.ret ?_
    exact Fin.ret rfl ⟨(congrArg Value.bool (by simp only [okArc, hdArc, hall2, ite_tt, ite_ff, gt_iff_lt, ge_iff_le, not_dlt, not_dle, bne_not, deq, decide_not, ne_eq, Bool.not_and, Bool.not_or, Bool.not_not, Bool.and_true, Bool.true_and, Bool.or_false, Bool.false_or, Int.toNat_natCast] <;> first | rfl | ac_rfl)), ⟨⟩⟩
theorem str8_toList (a : List UInt8) : (str8 a).toList = a := by
  rw [ByteArray.toList_eq]; rfl
theorem c_spec_EqualBytes (a b : List UInt8) : Sound ty Tryz.prog 200 [.a (.sl .u8 a), .a (.sl .u8 b)] [.a (.lit (.bool (a == b)))] := by
  refine Sound.of X Tryz.call200 Tryz.func200 rfl rfl (by decide) Tryz.ntmps200 (by simp) ?_
  intro zb
  refine W.seq ?_
  refine W.reg X [] [] [0, 1] [] rfl ⟨⟩ ?_
  refine W.seq ?_
  refine W.reg X [] [] [4] [] rfl ⟨⟩ ?_
  refine W.ret ?_
  exact Fin.ret rfl ⟨by rw [str8_toList, str8_toList], ⟨⟩⟩
theorem c_slices_Equal_byte_byte (a b : List UInt8) : Sound ty Tryz.prog 215 [.a (.sl .u8 a), .a (.sl .u8 b)] [.a (.lit (.bool (a == b)))] := by
  refine Sound.of X Tryz.call215 Tryz.func215 rfl rfl (by decide) Tryz.ntmps215 (by simp) ?_
  intro zb
  refine W.bound 0 rfl (fun hl1 => ?_)
  refine W.bound 1 rfl (fun hl2 => ?_)
  refine W.seq ?_
  refine W.reg X [] [] [0, 1] [] rfl ⟨⟩ ?_
  refine W.seq ?_
  refine W.seq ?_
  refine W.reg X [] [] [0, 1, 10] [] rfl ⟨⟩ ?_
  refine W.cond rfl (fun hb0 => ?_) (fun hb0 => ?_)
  · try simp only [nb, inr_t, inr_f, isEmpty_t] at hb0
    refine W.seq ?_
    refine W.reg X [] [] [4] [] rfl ⟨⟩ ?_
    refine W.ret ?_
    exact Fin.ret rfl ⟨by rw [ne_of_len a b hb0], ⟨⟩⟩
  · try simp only [nb, inr_t, inr_f, isEmpty_t] at hb0
    refine W.skip ?_
    refine W.seq ?_
    refine W.seq ?_
    refine W.reg X [] [] [0, 1, 12, 13] [] rfl ⟨⟩ ?_
    refine W.block ?_
    refine W.loopO (fun k => k ≤ a.length ∧ a.take k = b.take k) (fun k : Nat => [(13, .one (.a (.lit (.int .i64 k))))]) (fun k => []) (fun k => a.length - k) 0 (fun k => rfl) ⟨Nat.zero_le _, rfl⟩ rfl ?_
    rintro k ⟨hk, hall⟩
    refine W.seq ?_
    refine W.reg X [] [] [0, 1, 12, 13, 14] [] rfl ⟨⟩ ?_
    refine W.seq ?_
    refine W.cond rfl (fun hb1 => ?_) (fun hb1 => ?_)
    · try simp only [nb, inr_t, inr_f, isEmpty_t] at hb1
      refine W.skip ?_
      refine W.seq ?_
      refine W.block ?_
      refine W.seq ?_
      refine W.reg X [] [] [0, 1, 5, 12, 13] [] rfl ⟨⟩ ?_
      refine W.seq ?_
      refine W.draw X [] [] [0, 1, 12, 13, 24] [] 9 MO (by kernel_rfl) rfl (by (repeat' (first | exact True.intro | apply And.intro)) <;> first | (intros; omega)) ?_
      refine W.cond rfl (fun hb2 => ?_) (fun hb2 => ?_)
      · try simp only [nb, inr_t, inr_f, isEmpty_t] at hb2
        have hne := ne_of_getD a b (dfl .u8) k (fun h => hb2 (by rw [h]))
        refine W.seq ?_
        refine W.reg X [] [] [4] [] rfl ⟨⟩ ?_
        refine W.ret ?_
        exact Fin.ret rfl ⟨by rw [hne], ⟨⟩⟩
      · try simp only [nb, inr_t, inr_f, isEmpty_t] at hb2
        have he : a.getD k (dfl .u8) = b.getD k (dfl .u8) := u8_inj hb2
        refine W.skip ?_
        refine W.reg X [] [] [0, 1, 12, 13] [] rfl ⟨⟩ ?_
        refine ⟨k + 1, ⟨by omega, take_eq_step a b (dfl .u8) k hb1 (by omega) hall he⟩, by omega, ?_⟩
        rw [wadd _ k rfl (by omega)]
        try rfl
    · try simp only [nb, inr_t, inr_f, isEmpty_t] at hb1
      refine W.exit ?_
      refine W.seq ?_
      refine W.reg X [] [] [4] [] rfl ⟨⟩ ?_
      refine W.ret ?_
      exact Fin.ret rfl ⟨by rw [eq_of_take a b k (by omega) (by omega) hall], ⟨⟩⟩
theorem c_spec_EqualLists (a b : List (List UInt8)) : Sound ty Tryz.prog 170 [.a (.sl (.sl .u8) a), .a (.sl (.sl .u8) b)] [.a (.lit (.bool (a == b)))] := by
  refine Sound.of X Tryz.call170 Tryz.func170 rfl rfl (by decide) Tryz.ntmps170 (by simp) ?_
  intro zb
  refine W.bound 0 rfl (fun hl1 => ?_)
  refine W.bound 1 rfl (fun hl2 => ?_)
  refine W.seq ?_
  refine W.reg X [] [] [0, 1] [] rfl ⟨⟩ ?_
  refine W.seq ?_
  refine W.seq ?_
  refine W.reg X [] [] [0, 1, 10] [] rfl ⟨⟩ ?_
  refine W.cond rfl (fun hb0 => ?_) (fun hb0 => ?_)
  · try simp only [nb, inr_t, inr_f, isEmpty_t] at hb0
    refine W.seq ?_
    refine W.reg X [] [] [4] [] rfl ⟨⟩ ?_
    refine W.ret ?_
    exact Fin.ret rfl ⟨by rw [ne_of_len a b hb0], ⟨⟩⟩
  · try simp only [nb, inr_t, inr_f, isEmpty_t] at hb0
    refine W.skip ?_
    refine W.seq ?_
    refine W.seq ?_
    refine W.reg X [] [] [0, 1, 5] [] rfl ⟨⟩ ?_
    refine W.block ?_
    refine W.loopO (fun k => k ≤ a.length ∧ a.take k = b.take k) (fun k : Nat => [(5, .one (.a (.lit (.int .i64 k))))]) (fun k => []) (fun k => a.length - k) 0 (fun k => rfl) ⟨Nat.zero_le _, rfl⟩ rfl ?_
    rintro k ⟨hk, hall⟩
    refine W.seq ?_
    refine W.seq ?_
    refine W.reg X [] [] [0, 1, 5, 14] [] rfl ⟨⟩ ?_
    refine W.cond rfl (fun hb1 => ?_) (fun hb1 => ?_)
    · try simp only [nb, inr_t, inr_f, isEmpty_t] at hb1
      refine W.skip ?_
      refine W.seq ?_
      refine W.block ?_
      refine W.seq ?_
      refine W.draw X [] [(25, ⟨false, [.a (.lit (.bool _))]⟩)] [0, 1, 5, 26] [] 10 MO (by kernel_rfl) rfl (by (repeat' (first | with_reducible exact AllP.nil | with_reducible refine AllP.mk ?_ ?_ | with_reducible apply And.intro)) <;> skip; (iterate 1 (all_goals try (first | exact (c_spec_EqualBytes _ _)))); all_goals (first | (intros; omega))) ?_
      refine W.cond rfl (fun hb2 => ?_) (fun hb2 => ?_)
      · try simp only [nb, inr_t, inr_f, isEmpty_t] at hb2
        have hne := ne_of_getD a b (dfl (.sl .u8)) k (fun h => hb2 (by rw [h]))
        refine W.seq ?_
        refine W.reg X [] [] [4] [] rfl ⟨⟩ ?_
        refine W.ret ?_
        exact Fin.ret rfl ⟨by rw [hne], ⟨⟩⟩
      · try simp only [nb, inr_t, inr_f, isEmpty_t] at hb2
        have he : a.getD k (dfl (.sl .u8)) = b.getD k (dfl (.sl .u8)) := hb2
        refine W.skip ?_
        refine W.reg X [] [] [0, 1, 5] [] rfl ⟨⟩ ?_
        refine ⟨k + 1, ⟨by omega, take_eq_step a b (dfl (.sl .u8)) k hb1 (by omega) hall he⟩, by omega, ?_⟩
        rw [wadd _ k rfl (by omega)]
        try rfl
    · try simp only [nb, inr_t, inr_f, isEmpty_t] at hb1
      refine W.exit ?_
      refine W.seq ?_
      refine W.reg X [] [] [4] [] rfl ⟨⟩ ?_
      refine W.ret ?_
      exact Fin.ret rfl ⟨by rw [eq_of_take a b k (by omega) (by omega) hall], ⟨⟩⟩
theorem c_impl_EqualBytes (a b : List UInt8) : Sound ty Tryz.prog 208 [.a (.sl .u8 a), .a (.sl .u8 b)] [.a (.lit (.bool (a == b)))] := by
  refine Sound.of X Tryz.call208 Tryz.func208 rfl rfl (by decide) Tryz.ntmps208 (by simp) ?_
  intro zb
  refine W.seq ?_
  refine W.reg X [] [] [0, 1] [] rfl ⟨⟩ ?_
  refine W.seq ?_
  refine W.reg X [] [(7, ⟨false, [.a (.lit (.bool _))]⟩)] [4] [] rfl (by (repeat' (first | with_reducible exact AllP.nil | with_reducible refine AllP.mk ?_ ?_ | with_reducible apply And.intro)) <;> skip; (iterate 1 (all_goals try (first | exact (c_slices_Equal_byte_byte _ _))))) ?_
  refine W.ret ?_
  exact Fin.ret rfl ⟨rfl, ⟨⟩⟩
theorem c_slices_EqualFunc_byte_byte_byte_byte (a b : List (List UInt8)) : Sound ty Tryz.prog 207 [.a (.sl (.sl .u8) a), .a (.sl (.sl .u8) b), .a (.lit (.func (.func 208) #[] #[]))] [.a (.lit (.bool (a == b)))] := by
  refine Sound.of X Tryz.call207 Tryz.func207 rfl rfl (by decide) Tryz.ntmps207 (by simp) ?_
  intro zb
  refine W.bound 0 rfl (fun hl1 => ?_)
  refine W.bound 1 rfl (fun hl2 => ?_)
  refine W.seq ?_
  refine W.reg X [] [] [0, 1, 2] [] rfl ⟨⟩ ?_
  refine W.seq ?_
  refine W.seq ?_
  refine W.reg X [] [] [0, 1, 2, 14] [] rfl ⟨⟩ ?_
  refine W.cond rfl (fun hb0 => ?_) (fun hb0 => ?_)
  · try simp only [nb, inr_t, inr_f, isEmpty_t] at hb0
    refine W.seq ?_
    refine W.reg X [] [] [6] [] rfl ⟨⟩ ?_
    refine W.ret ?_
    exact Fin.ret rfl ⟨by rw [ne_of_len a b hb0], ⟨⟩⟩
  · try simp only [nb, inr_t, inr_f, isEmpty_t] at hb0
    refine W.skip ?_
    refine W.seq ?_
    refine W.seq ?_
    refine W.reg X [] [] [1, 2, 15, 16, 17] [] rfl ⟨⟩ ?_
    refine W.block ?_
    refine W.loopO (fun k => k ≤ a.length ∧ a.take k = b.take k) (fun k : Nat => [(17, .one (.a (.lit (.int .i64 k))))]) (fun k => []) (fun k => a.length - k) 0 (fun k => rfl) ⟨Nat.zero_le _, rfl⟩ rfl ?_
    rintro k ⟨hk, hall⟩
    refine W.seq ?_
    refine W.reg X [] [] [1, 2, 15, 16, 17, 18] [] rfl ⟨⟩ ?_
    refine W.seq ?_
    refine W.cond rfl (fun hb1 => ?_) (fun hb1 => ?_)
    · try simp only [nb, inr_t, inr_f, isEmpty_t] at hb1
      refine W.skip ?_
      refine W.seq ?_
      refine W.block ?_
      refine W.seq ?_
      refine W.reg X [] [] [1, 2, 7, 8, 15, 16, 17] [] rfl (by (repeat' (first | exact True.intro | apply And.intro)) <;> first | (intros; omega)) ?_
      refine W.seq ?_
      refine W.reg X [] [] [1, 2, 8, 9, 15, 16, 17] [] rfl (by (repeat' (first | exact True.intro | apply And.intro)) <;> first | (intros; omega)) ?_
      refine W.seq ?_
      refine W.reg X [] [(29, ⟨false, [.a (.lit (.bool (a.getD k (dfl (.sl .u8)) == b.getD k (dfl (.sl .u8)))))]⟩)] [1, 2, 15, 16, 17, 30] [] rfl (by (repeat' (first | with_reducible exact AllP.nil | with_reducible refine AllP.mk ?_ ?_ | with_reducible apply And.intro)) <;> skip; (iterate 1 (all_goals try (first | exact (c_impl_EqualBytes _ _))))) ?_
      refine W.cond rfl (fun hb2 => ?_) (fun hb2 => ?_)
      · try simp only [nb, inr_t, inr_f, isEmpty_t] at hb2
        have hne := ne_of_getD a b (dfl (.sl .u8)) k (fun h => hb2 (by rw [h]))
        refine W.seq ?_
        refine W.reg X [] [] [6] [] rfl ⟨⟩ ?_
        refine W.ret ?_
        exact Fin.ret rfl ⟨by rw [hne], ⟨⟩⟩
      · try simp only [nb, inr_t, inr_f, isEmpty_t] at hb2
        have he : a.getD k (dfl (.sl .u8)) = b.getD k (dfl (.sl .u8)) := hb2
        refine W.skip ?_
        refine W.reg X [] [] [1, 2, 15, 16, 17] [] rfl ⟨⟩ ?_
        refine ⟨k + 1, ⟨by omega, take_eq_step a b (dfl (.sl .u8)) k hb1 (by omega) hall he⟩, by omega, ?_⟩
        rw [wadd _ k rfl (by omega)]
        try rfl
    · try simp only [nb, inr_t, inr_f, isEmpty_t] at hb1
      refine W.exit ?_
      refine W.seq ?_
      refine W.reg X [] [] [6] [] rfl ⟨⟩ ?_
      refine W.ret ?_
      exact Fin.ret rfl ⟨by rw [eq_of_take a b k (by omega) (by omega) hall], ⟨⟩⟩
theorem c_impl_EqualLists (a b : List (List UInt8)) : Sound ty Tryz.prog 185 [.a (.sl (.sl .u8) a), .a (.sl (.sl .u8) b)] [.a (.lit (.bool (a == b)))] := by
  refine Sound.of X Tryz.call185 Tryz.func185 rfl rfl (by decide) Tryz.ntmps185 (by simp) ?_
  intro zb
  refine W.seq ?_
  refine W.reg X [] [] [0, 1] [] rfl ⟨⟩ ?_
  refine W.seq ?_
  refine W.reg X [] [(7, ⟨false, [.a (.lit (.bool _))]⟩)] [4] [] rfl (by (repeat' (first | with_reducible exact AllP.nil | with_reducible refine AllP.mk ?_ ?_ | with_reducible apply And.intro)) <;> skip; (iterate 1 (all_goals try (first | exact (c_slices_EqualFunc_byte_byte_byte_byte _ _))))) ?_
  refine W.ret ?_
  exact Fin.ret rfl ⟨rfl, ⟨⟩⟩
theorem c_impl_IsValidClient_1 (b : List UInt8) : Sound ty Tryz.prog 184 [.a (.sl .u8 b)] [.a (.lit (.bool (long b)))] := by
  refine Sound.of X Tryz.call184 Tryz.func184 rfl rfl (by decide) Tryz.ntmps184 (by simp) ?_
  intro zb
  refine W.seq ?_
  refine W.reg X [] [] [0] [] rfl ⟨⟩ ?_
  refine W.seq ?_
  refine W.reg X [] [] [2] [] rfl ⟨⟩ ?_
  refine W.ret ?_
  exact Fin.ret rfl ⟨rfl, ⟨⟩⟩
theorem c_impl_isServerCount (n : Int) : Sound ty Tryz.prog 79 [.a (.lit (.int .i64 n))] [.a (.lit (.bool (srvCnt n)))] := by
  refine Sound.of X Tryz.call79 Tryz.func79 rfl rfl (by decide) Tryz.ntmps79 (by simp) ?_
  intro zb
  refine W.seq ?_
  refine W.reg X [] [] [0] [] rfl ⟨⟩ ?_
  refine W.seq ?_
  refine W.reg X [] [(4, ⟨false, [.a (.lit (.bool _))]⟩)] [2] [] rfl (by (repeat' (first | with_reducible exact AllP.nil | with_reducible refine AllP.mk ?_ ?_ | with_reducible apply And.intro)) <;> skip; (iterate 1 (all_goals try (first | exact (c_impl_InRange _ _ _))))) ?_
  refine W.ret ?_
  exact Fin.ret rfl ⟨rfl, ⟨⟩⟩
theorem c_spec_l7Count (n : Int) : Sound ty Tryz.prog 112 [.a (.lit (.int .i64 n))] [.a (.lit (.bool (srvCnt n)))] := by
  refine Sound.of X Tryz.call112 Tryz.func112 rfl rfl (by decide) Tryz.ntmps112 (by simp) ?_
  intro zb
  refine W.seq ?_
  refine W.reg X [] [] [0] [] rfl ⟨⟩ ?_
  refine W.seq ?_
  refine W.reg X [] [(4, ⟨false, [.a (.lit (.bool _))]⟩)] [2] [] rfl (by (repeat' (first | with_reducible exact AllP.nil | with_reducible refine AllP.mk ?_ ?_ | with_reducible apply And.intro)) <;> skip; (iterate 1 (all_goals try (first | exact (c_spec_l1In _ _ _))))) ?_
  refine W.ret ?_
  exact Fin.ret rfl ⟨rfl, ⟨⟩⟩
theorem c_impl_IsValidClient (c : Cli) : Sound ty Tryz.prog 134 [.agg (dec_Cli c)] [.a (.lit (.bool (okCli c)))] := by
  refine Sound.of X Tryz.call134 Tryz.func134 rfl rfl (by decide) Tryz.ntmps134 (by simp) ?_
  intro zb
  refine W.seq ?_
  refine W.reg X [] [] [1] [] rfl ⟨⟩ ?_
  refine W.seq ?_
  refine W.reg X [] [] [1, 3] [] rfl ⟨⟩ ?_
  refine W.seq ?_
  refine W.reg X [] [(6, ⟨false, [.a (.lit (.bool (inr c.id 0 7)))]⟩), (10, ⟨false, [.a (.lit (.bool (inr c.friend 0 7)))]⟩), (22, ⟨false, [.a (.lit (.bool (okKey c.key)))]⟩), (40, ⟨false, [.a (.lit (.bool (c.submitted.any long)))]⟩), (47, ⟨false, [.a (.lit (.bool (c.inbox.any long)))]⟩), (56, ⟨false, [.a (.lit (.bool (inr c.sent 0 (c.submitted.length : Int))))]⟩), (61, ⟨false, [.a (.lit (.bool (inr c.next 0 100000)))]⟩)] [2] [] rfl (by (repeat' (first | with_reducible exact AllP.nil | with_reducible refine AllP.mk ?_ ?_ | with_reducible apply And.intro)) <;> skip; (iterate 7 (all_goals try (first | exact (c_impl_InRange c.id 0 7) | exact fun _ => (c_impl_InRange c.friend 0 7) | exact fun _ => (c_impl_IsValidKey c.key) | exact fun _ => (c_slices_ContainsFunc_byte_byte _ _ _ c_impl_IsValidClient_1) | exact fun _ => (c_impl_InRange c.sent 0 (c.submitted.length : Int)) | exact fun _ => (c_impl_InRange c.next 0 100000))))) ?_
  refine W.ret ?_
  exact Fin.ret rfl ⟨(congrArg Value.bool (by simp only [okCli, ite_tt, ite_ff, gt_iff_lt, ge_iff_le, not_dlt, not_dle, bne_not, deq, decide_not, ne_eq, Bool.not_and, Bool.not_or, Bool.not_not, Bool.and_true, Bool.true_and, Bool.or_false, Bool.false_or, Int.toNat_natCast] <;> first | rfl | ac_rfl)), ⟨⟩⟩
theorem c_spec_l29Ok (i f k : Int) : Sound ty Tryz.prog 171 [.a (.lit (.int .i64 i)), .a (.lit (.int .i64 f)), .a (.lit (.int .i64 k))] [.a (.lit (.bool (inr i 0 7 && inr f 0 7 && !(i == f) && okKey k)))] := by
  refine Sound.of X Tryz.call171 Tryz.func171 rfl rfl (by decide) Tryz.ntmps171 (by simp) ?_
  intro zb
  refine W.seq ?_
  refine W.reg X [] [] [0, 1, 2] [] rfl ⟨⟩ ?_
  refine W.seq ?_
  refine W.reg X [] [(8, ⟨false, [.a (.lit (.bool (inr i 0 7)))]⟩), (11, ⟨false, [.a (.lit (.bool (inr f 0 7)))]⟩), (20, ⟨false, [.a (.lit (.bool (okKey k)))]⟩)] [6] [] rfl (by (repeat' (first | with_reducible exact AllP.nil | with_reducible refine AllP.mk ?_ ?_ | with_reducible apply And.intro)) <;> skip; (iterate 3 (all_goals try (first | exact (c_spec_l1In i 0 7) | exact fun _ => (c_spec_l1In f 0 7) | exact fun _ => (c_spec_IsValidKey k))))) ?_
  refine W.ret ?_
  exact Fin.ret rfl ⟨(congrArg Value.bool (by simp only [ite_tt, ite_ff, gt_iff_lt, ge_iff_le, not_dlt, not_dle, bne_not, deq, decide_not, ne_eq, Bool.not_and, Bool.not_or, Bool.not_not, Bool.and_true, Bool.true_and, Bool.or_false, Bool.false_or, Int.toNat_natCast] <;> first | rfl | ac_rfl)), ⟨⟩⟩
theorem c_spec_l29Bodies (l : List (List UInt8)) : Sound ty Tryz.prog 172 [.a (.sl (.sl .u8) l)] [.a (.lit (.bool (decide ((l.length : Int) ≤ 16) && !l.any long)))] := by
  refine Sound.of X Tryz.call172 Tryz.func172 rfl rfl (by decide) Tryz.ntmps172 (by simp) ?_
  intro zb
  refine W.bound 0 rfl (fun hll => ?_)
  refine W.seq ?_
  refine W.reg X [] [] [0] [] rfl ⟨⟩ ?_
  refine W.seq ?_
  refine W.seq ?_
  refine W.reg X [] [] [0, 3] [] rfl ⟨⟩ ?_
  refine W.block ?_
  refine W.loopO (fun k => k ≤ l.length ∧ (l.take k).any long = false) (fun k : Nat => [(3, .one (.a (.lit (.int .i64 k))))]) (fun k => []) (fun k => l.length - k) 0 (fun k => rfl) ⟨Nat.zero_le _, rfl⟩ rfl ?_
  rintro k ⟨hk, hall⟩
  refine W.seq ?_
  refine W.seq ?_
  refine W.reg X [] [] [0, 3, 7] [] rfl ⟨⟩ ?_
  refine W.cond rfl (fun hb0 => ?_) (fun hb0 => ?_)
  · try simp only [nb, inr_t, inr_f, isEmpty_t] at hb0
    refine W.skip ?_
    refine W.seq ?_
    refine W.block ?_
    refine W.seq ?_
    refine W.reg X [] [] [0, 3, 15] [] rfl (by (repeat' (first | exact True.intro | apply And.intro)) <;> first | (intros; omega)) ?_
    refine W.cond rfl (fun hb1 => ?_) (fun hb1 => ?_)
    · skip
      refine W.seq ?_
      refine W.reg X [] [] [2] [] rfl ⟨⟩ ?_
      refine W.ret ?_
      exact Fin.ret rfl ⟨by rw [any_yes l long (dfl (.sl .u8)) k hb0 hb1]; simp, ⟨⟩⟩
    · skip
      refine W.skip ?_
      refine W.reg X [] [] [0, 3] [] rfl ⟨⟩ ?_
      refine ⟨k + 1, ⟨by omega, any_no (dfl (.sl .u8)) hb0 hall hb1⟩, by omega, ?_⟩
      rw [wadd _ k rfl (by omega)]
      try rfl
  · try simp only [nb, inr_t, inr_f, isEmpty_t] at hb0
    have hall2 : l.any long = false := by rw [← hall, List.take_of_length_le hb0]
    refine W.exit ?_
    refine W.seq ?_
    refine W.reg X [] [] [2] [] rfl ⟨⟩ ?_
    refine W.ret ?_
    exact Fin.ret rfl ⟨by rw [hall2]; simp, ⟨⟩⟩
theorem c_spec_IsValidClient (c : Cli) : Sound ty Tryz.prog 116 [.agg (dec_Cli c)] [.a (.lit (.bool (okCli c)))] := by
  refine Sound.of X Tryz.call116 Tryz.func116 rfl rfl (by decide) Tryz.ntmps116 (by simp) ?_
  intro zb
  refine W.seq ?_
  refine W.reg X [] [] [1] [] rfl ⟨⟩ ?_
  refine W.seq ?_
  refine W.reg X [] [(9, ⟨false, [.a (.lit (.bool (inr c.id 0 7 && inr c.friend 0 7 && !(c.id == c.friend) && okKey c.key)))]⟩), (13, ⟨false, [.a (.lit (.bool (decide ((c.submitted.length : Int) ≤ 16) && !c.submitted.any long)))]⟩), (18, ⟨false, [.a (.lit (.bool (decide ((c.inbox.length : Int) ≤ 16) && !c.inbox.any long)))]⟩), (26, ⟨false, [.a (.lit (.bool (inr c.sent 0 (c.submitted.length : Int))))]⟩), (31, ⟨false, [.a (.lit (.bool (inr c.next 0 100000)))]⟩)] [2] [] rfl (by (repeat' (first | with_reducible exact AllP.nil | with_reducible refine AllP.mk ?_ ?_ | with_reducible apply And.intro)) <;> skip; (iterate 5 (all_goals try (first | exact (c_spec_l29Ok c.id c.friend c.key) | exact fun _ => (c_spec_l29Bodies c.submitted) | exact fun _ => (c_spec_l29Bodies c.inbox) | exact fun _ => (c_spec_l1In c.sent 0 (c.submitted.length : Int)) | exact fun _ => (c_spec_l1In c.next 0 100000))))) ?_
  refine W.ret ?_
  exact Fin.ret rfl ⟨(congrArg Value.bool (by simp only [okCli, ite_tt, ite_ff, gt_iff_lt, ge_iff_le, not_dlt, not_dle, bne_not, deq, decide_not, ne_eq, Bool.not_and, Bool.not_or, Bool.not_not, Bool.and_true, Bool.true_and, Bool.or_false, Bool.false_or, Int.toNat_natCast] <;> first | rfl | ac_rfl)), ⟨⟩⟩
theorem c_impl_sameOwner (a b : Cli) : Sound ty Tryz.prog 135 [.agg (dec_Cli a), .agg (dec_Cli b)] [.a (.lit (.bool (sameOwn a b)))] := by
  refine Sound.of X Tryz.call135 Tryz.func135 rfl rfl (by decide) Tryz.ntmps135 (by simp) ?_
  intro zb
  refine W.seq ?_
  refine W.reg X [] [] [2, 3] [] rfl ⟨⟩ ?_
  refine W.seq ?_
  refine W.reg X [] [(36, ⟨false, [.a (.lit (.bool (a.submitted == b.submitted)))]⟩)] [4] [] rfl (by (repeat' (first | with_reducible exact AllP.nil | with_reducible refine AllP.mk ?_ ?_ | with_reducible apply And.intro)) <;> skip; (iterate 1 (all_goals try (first | exact fun _ => (c_impl_EqualLists a.submitted b.submitted))))) ?_
  refine W.ret ?_
  exact Fin.ret rfl ⟨(congrArg Value.bool (by simp only [sameOwn, ite_tt, ite_ff, gt_iff_lt, ge_iff_le, not_dlt, not_dle, bne_not, deq, decide_not, ne_eq, Bool.not_and, Bool.not_or, Bool.not_not, Bool.and_true, Bool.true_and, Bool.or_false, Bool.false_or, Int.toNat_natCast] <;> first | rfl | ac_rfl)), ⟨⟩⟩
theorem c_impl_isPrefix (a b : List (List UInt8)) : Sound ty Tryz.prog 136 [.a (.sl (.sl .u8) a), .a (.sl (.sl .u8) b)] [.a (.lit (.bool (preL a b)))] := by
  refine Sound.of X Tryz.call136 Tryz.func136 rfl rfl (by decide) Tryz.ntmps136 (by simp) ?_
  intro zb
  refine W.seq ?_
  refine W.reg X [] [] [0, 1] [] rfl ⟨⟩ ?_
  refine W.seq ?_
  refine W.reg X [] [(16, ⟨false, [.a (.lit (.bool (a == ((b.take (a.length : Int).toNat).drop (0 : Int).toNat))))]⟩)] [4] [] rfl (by (repeat' (first | with_reducible exact AllP.nil | with_reducible refine AllP.mk ?_ ?_ | with_reducible apply And.intro)) <;> skip; (iterate 1 (all_goals try (first | exact fun _ => (c_impl_EqualLists a ((b.take (a.length : Int).toNat).drop (0 : Int).toNat))))); all_goals (first | ((intro h1; first | (intro h2; first | (intro h3; refine And.intro ?_ ?_) | refine And.intro ?_ ?_) | refine And.intro ?_ ?_) <;> first | omega | ((try simp only [nb, inr_t, inr_f] at *); (try simp (disch := omega) only [i64w]); omega)))) ?_
  refine W.ret ?_
  exact Fin.ret rfl ⟨(congrArg Value.bool (by simp only [preL, List.drop_zero, Int.toNat_zero, ite_tt, ite_ff, gt_iff_lt, ge_iff_le, not_dlt, not_dle, bne_not, deq, decide_not, ne_eq, Bool.not_and, Bool.not_or, Bool.not_not, Bool.and_true, Bool.true_and, Bool.or_false, Bool.false_or, Int.toNat_natCast] <;> first | rfl | ac_rfl)), ⟨⟩⟩
theorem c_impl_IsValidDevice (d : Dev) : Sound ty Tryz.prog 84 [.agg (dec_Dev d)] [.a (.lit (.bool (okDev d)))] := by
  refine Sound.of X Tryz.call84 Tryz.func84 rfl rfl (by decide) Tryz.ntmps84 (by simp) ?_
  intro zb
  refine W.seq ?_
  refine W.reg X [] [] [1] [] rfl ⟨⟩ ?_
  refine W.seq ?_
  refine W.reg X [] [(5, ⟨false, [.a (.lit (.bool (okCli d.live)))]⟩), (9, ⟨false, [.a (.lit (.bool (okCli d.saved)))]⟩), (16, ⟨false, [.a (.lit (.bool (sameOwn d.live d.saved)))]⟩), (43, ⟨false, [.a (.lit (.bool (preL d.saved.inbox d.live.inbox)))]⟩)] [2] [] rfl (by (repeat' (first | with_reducible exact AllP.nil | with_reducible refine AllP.mk ?_ ?_ | with_reducible apply And.intro)) <;> skip; (iterate 4 (all_goals try (first | exact (c_impl_IsValidClient d.live) | exact fun _ => (c_impl_IsValidClient d.saved) | exact fun _ => (c_impl_sameOwner d.live d.saved) | exact fun _ => (c_impl_isPrefix d.saved.inbox d.live.inbox))))) ?_
  refine W.ret ?_
  exact Fin.ret rfl ⟨(congrArg Value.bool (by simp only [okDev, ite_tt, ite_ff, gt_iff_lt, ge_iff_le, not_dlt, not_dle, bne_not, deq, decide_not, ne_eq, Bool.not_and, Bool.not_or, Bool.not_not, Bool.and_true, Bool.true_and, Bool.or_false, Bool.false_or, Int.toNat_natCast] <;> first | rfl | ac_rfl)), ⟨⟩⟩
theorem c_spec_IsValidDevice (d : Dev) : Sound ty Tryz.prog 113 [.agg (dec_Dev d)] [.a (.lit (.bool (okDev d)))] := by
  refine Sound.of X Tryz.call113 Tryz.func113 rfl rfl (by decide) Tryz.ntmps113 (by simp) ?_
  intro zb
  refine W.seq ?_
  refine W.reg X [] [] [1] [] rfl ⟨⟩ ?_
  refine W.seq ?_
  refine W.reg X [] [] [1, 3] [] rfl ⟨⟩ ?_
  refine W.seq ?_
  refine W.reg X [] [] [3, 4] [] rfl ⟨⟩ ?_
  refine W.seq ?_
  refine W.seq ?_
  refine W.reg X [] [(10, ⟨false, [.a (.lit (.bool (okCli d.live)))]⟩), (14, ⟨false, [.a (.lit (.bool (okCli d.saved)))]⟩), (50, ⟨false, [.a (.lit (.bool (d.live.submitted == d.saved.submitted)))]⟩)] [3, 4, 52] [] rfl (by (repeat' (first | with_reducible exact AllP.nil | with_reducible refine AllP.mk ?_ ?_ | with_reducible apply And.intro)) <;> skip; (iterate 3 (all_goals try (first | exact (c_spec_IsValidClient d.live) | exact fun _ => (c_spec_IsValidClient d.saved) | exact fun _ => (c_spec_EqualLists d.live.submitted d.saved.submitted))))) ?_
  refine W.cond rfl (fun hb0 => ?_) (fun hb0 => ?_)
  · skip
    refine W.seq ?_
    refine W.reg X [] [] [2] [] rfl ⟨⟩ ?_
    refine W.ret ?_
    exact Fin.ret rfl ⟨by rw [show okDev d = false from by rw [okDev, or_no1 (R := okCli d.live && okCli d.saved && sameOwn d.live d.saved) hb0 (by simp only [sameOwn, ite_tt, ite_ff, gt_iff_lt, ge_iff_le, not_dlt, not_dle, bne_not, deq, decide_not, ne_eq, Bool.not_and, Bool.not_or, Bool.not_not, Bool.and_true, Bool.true_and, Bool.or_false, Bool.false_or, Int.toNat_natCast] <;> first | rfl | ac_rfl)]; rfl], ⟨⟩⟩
  · have hh : (okCli d.live && okCli d.saved && sameOwn d.live d.saved) = true := or_yes hb0 (by simp only [sameOwn, ite_tt, ite_ff, gt_iff_lt, ge_iff_le, not_dlt, not_dle, bne_not, deq, decide_not, ne_eq, Bool.not_and, Bool.not_or, Bool.not_not, Bool.and_true, Bool.true_and, Bool.or_false, Bool.false_or, Int.toNat_natCast] <;> first | rfl | ac_rfl)
    refine W.skip ?_
    refine W.seq ?_
    refine W.draw X [] [(83, ⟨false, [.a (.lit (.bool (d.saved.inbox == ((d.live.inbox.take (d.saved.inbox.length : Int).toNat).drop (0 : Int).toNat))))]⟩)] [2] [] 33 MO (by kernel_rfl) rfl (by (repeat' (first | with_reducible exact AllP.nil | with_reducible refine AllP.mk ?_ ?_ | with_reducible apply And.intro)) <;> skip; (iterate 1 (all_goals try (first | exact fun _ => (c_spec_EqualLists d.saved.inbox ((d.live.inbox.take (d.saved.inbox.length : Int).toNat).drop (0 : Int).toNat))))); all_goals (first | ((intro h1; first | (intro h2; first | (intro h3; refine And.intro ?_ ?_) | refine And.intro ?_ ?_) | refine And.intro ?_ ?_) <;> first | omega | ((try simp only [nb, inr_t, inr_f] at *); (try simp (disch := omega) only [i64w]); omega)))) ?_
    refine W.ret ?_
    exact Fin.ret rfl ⟨(congrArg Value.bool (by simp only [okDev, hh, preL, List.drop_zero, Int.toNat_zero, ite_tt, ite_ff, gt_iff_lt, ge_iff_le, not_dlt, not_dle, bne_not, deq, decide_not, ne_eq, Bool.not_and, Bool.not_or, Bool.not_not, Bool.and_true, Bool.true_and, Bool.or_false, Bool.false_or, Int.toNat_natCast] <;> first | rfl | ac_rfl)), ⟨⟩⟩
end Go.Proofs.YthjedjndamejmaaGreat.G
namespace Go.Proofs.YthjedjndamejmaaGreat.G
set_option linter.all false
open Go.RowKit L D
set_option maxRecDepth 100000
theorem c_impl_IsValidWorld (x : Wld) : Sound ty Tryz.prog 36 [.agg (dec_Wld x)] [.a (.lit (.bool (okW x)))] := by
  refine Sound.of X Tryz.call36 Tryz.func36 rfl rfl (by decide) Tryz.ntmps36 (by simp) ?_
  intro zb
  refine W.boundA 0 1 rfl rfl (fun hl1 => ?_)
  refine W.boundA 0 2 rfl rfl (fun hl2 => ?_)
  refine W.seq ?_
  refine W.reg X [] [] [1] [] rfl ⟨⟩ ?_
  refine W.seq ?_
  refine W.seq ?_
  refine W.draw X [] [(10, ⟨false, [.a (.lit (.bool (inr x.rows 1 64)))]⟩), (16, ⟨false, [.a (.lit (.bool (srvCnt (x.servers.length : Int))))]⟩), (23, ⟨false, [.a (.lit (.bool (inr (x.devices.length : Int) 2 8)))]⟩), (36, ⟨false, [.a (.lit (.bool (okArc x.archive)))]⟩), (50, ⟨false, [.a (.lit (.int .i64 (lastR x.archive)))]⟩), (58, ⟨false, [.a (.lit (.bool (okKey x.master)))]⟩), (64, ⟨false, [.a (.lit (.bool (inr x.round 0 100000)))]⟩)] [1, 71] [] 64 MO (by kernel_rfl) rfl (by (repeat' (first | with_reducible exact AllP.nil | with_reducible refine AllP.mk ?_ ?_ | with_reducible apply And.intro)) <;> skip; (iterate 7 (all_goals try (first | exact (c_impl_InRange x.rows 1 64) | exact fun _ => (c_impl_isServerCount (x.servers.length : Int)) | exact fun _ => (c_impl_InRange (x.devices.length : Int) 2 8) | exact fun _ => (c_impl_IsValidArchive x.archive) | exact fun _ => (c_impl_LastRound x.archive) | exact fun _ => (c_impl_IsValidKey x.master) | exact fun _ => (c_impl_InRange x.round 0 100000)))); all_goals (first | (refine fun _ => ?_; dsimp only [hyps, imps]; omega))) ?_
  refine W.cond rfl (fun hb0 => ?_) (fun hb0 => ?_)
  · skip
    refine W.seq ?_
    refine W.reg X [] [] [2] [] rfl ⟨⟩ ?_
    refine W.ret ?_
    exact Fin.ret rfl ⟨by rw [show okW x = false from by rw [okW, or_no1 (R := hdW x) hb0 (by simp only [hdW, ite_tt, ite_ff, gt_iff_lt, ge_iff_le, not_dlt, not_dle, bne_not, deq, decide_not, ne_eq, Bool.not_and, Bool.not_or, Bool.not_not, Bool.and_true, Bool.true_and, Bool.or_false, Bool.false_or, Int.toNat_natCast] <;> first | rfl | ac_rfl)]; rfl], ⟨⟩⟩
  · have hh : hdW x = true := or_yes hb0 (by simp only [hdW, ite_tt, ite_ff, gt_iff_lt, ge_iff_le, not_dlt, not_dle, bne_not, deq, decide_not, ne_eq, Bool.not_and, Bool.not_or, Bool.not_not, Bool.and_true, Bool.true_and, Bool.or_false, Bool.false_or, Int.toNat_natCast] <;> first | rfl | ac_rfl)
    obtain ⟨hev, hd8, _⟩ := hdW_dev hh
    refine W.skip ?_
    refine W.seq ?_
    refine W.seq ?_
    refine W.reg X [] [] [1, 73, 74, 75] [] rfl ⟨⟩ ?_
    refine W.block ?_
    refine W.loopO (fun k => k ≤ x.servers.length ∧ (List.range k).all (okS x) = true) (fun k : Nat => [(75, .one (.a (.lit (.int .i64 k))))]) (fun k => []) (fun k => x.servers.length - k) 0 (fun k => rfl) ⟨Nat.zero_le _, rfl⟩ rfl ?_
    rintro k ⟨hk, hall⟩
    refine W.seq ?_
    refine W.reg X [] [] [1, 73, 74, 75, 76] [] rfl ⟨⟩ ?_
    refine W.seq ?_
    refine W.cond rfl (fun hb1 => ?_) (fun hb1 => ?_)
    · try simp only [nb, inr_t, inr_f, isEmpty_t] at hb1
      refine W.skip ?_
      refine W.seq ?_
      refine W.block ?_
      refine W.seq ?_
      refine W.reg X [] [] [1, 3, 4, 73, 74, 75] [] rfl (by (repeat' (first | exact True.intro | apply And.intro)) <;> first | (intros; omega)) ?_
      refine W.seq ?_
      refine W.reg X [] [(81, ⟨false, [.a (.lit (.bool (okSrv (x.servers.getD k (dfl .Srv)))))]⟩)] [1, 73, 74, 75, 108] [] rfl (by (repeat' (first | with_reducible exact AllP.nil | with_reducible refine AllP.mk ?_ ?_ | with_reducible apply And.intro)) <;> skip; (iterate 1 (all_goals try (first | exact (c_impl_IsValidServer (x.servers.getD k (dfl .Srv))))))) ?_
      refine W.cond rfl (fun hb2 => ?_) (fun hb2 => ?_)
      · have hk2 : okS x k = false := or_no1 hb2 (by simp only [okS, ite_tt, ite_ff, gt_iff_lt, ge_iff_le, not_dlt, not_dle, bne_not, deq, decide_not, ne_eq, Bool.not_and, Bool.not_or, Bool.not_not, Bool.and_true, Bool.true_and, Bool.or_false, Bool.false_or, Int.toNat_natCast] <;> first | rfl | ac_rfl)
        refine W.seq ?_
        refine W.reg X [] [] [2] [] rfl ⟨⟩ ?_
        refine W.ret ?_
        exact Fin.ret rfl ⟨by rw [show okW x = false from by rw [okW, range_no hb1 hk2]; simp], ⟨⟩⟩
      · have hk2 : okS x k = true := or_yes hb2 (by simp only [okS, ite_tt, ite_ff, gt_iff_lt, ge_iff_le, not_dlt, not_dle, bne_not, deq, decide_not, ne_eq, Bool.not_and, Bool.not_or, Bool.not_not, Bool.and_true, Bool.true_and, Bool.or_false, Bool.false_or, Int.toNat_natCast] <;> first | rfl | ac_rfl)
        refine W.skip ?_
        refine W.reg X [] [] [1, 73, 74, 75] [] rfl ⟨⟩ ?_
        refine ⟨k + 1, ⟨by omega, range_all hall hk2⟩, by omega, ?_⟩
        rw [wadd _ k rfl (by omega)]
        try rfl
    · try simp only [nb, inr_t, inr_f, isEmpty_t] at hb1
      have hall2 : (List.range x.servers.length).all (okS x) = true := by rw [show x.servers.length = k by omega]; exact hall
      refine W.exit ?_
      refine W.seq ?_
      refine W.seq ?_
      refine W.reg X [] [] [1, 111, 112, 113] [] rfl ⟨⟩ ?_
      refine W.block ?_
      refine W.loopO (fun k1 => k1 ≤ x.devices.length ∧ (List.range k1).all (okD x) = true) (fun k1 : Nat => [(113, .one (.a (.lit (.int .i64 k1))))]) (fun k1 => []) (fun k1 => x.devices.length - k1) 0 (fun k1 => rfl) ⟨Nat.zero_le _, rfl⟩ rfl ?_
      rintro k1 ⟨hk1, hall1⟩
      refine W.seq ?_
      refine W.reg X [] [] [1, 111, 112, 113, 114] [] rfl ⟨⟩ ?_
      refine W.seq ?_
      refine W.cond rfl (fun hb3 => ?_) (fun hb3 => ?_)
      · try simp only [nb, inr_t, inr_f, isEmpty_t] at hb3
        have hx := xorN k1 (by omega)
        have hlt := xor_lt k1 x.devices.length hb3 hev
        refine W.skip ?_
        refine W.seq ?_
        refine W.block ?_
        refine W.seq ?_
        refine W.reg X [] [] [1, 5, 6, 111, 112, 113] [] rfl (by (repeat' (first | exact True.intro | apply And.intro)) <;> first | (intros; omega)) ?_
        refine W.seq ?_
        refine W.reg X [] [] [1, 5, 6, 7, 111, 112, 113] [] rfl ⟨⟩ ?_
        refine W.seq ?_
        refine W.draw X [] [(121, ⟨false, [.a (.lit (.bool (okDev (x.devices.getD k1 (dfl .Dev)))))]⟩)] [1, 111, 112, 113, 155] [] 36 MO (by kernel_rfl) rfl (by (repeat' (first | with_reducible exact AllP.nil | with_reducible refine AllP.mk ?_ ?_ | with_reducible apply And.intro)) <;> skip; (iterate 1 (all_goals try (first | exact (c_impl_IsValidDevice (x.devices.getD k1 (dfl .Dev)))))); all_goals (first | ((intro h1; first | (intro h2; first | (intro h3; refine And.intro ?_ ?_) | refine And.intro ?_ ?_) | refine And.intro ?_ ?_) <;> first | omega | ((try simp only [nb, inr_t, inr_f] at *); (try simp (disch := omega) only [i64w]); omega)))) ?_
        refine W.cond rfl (fun hb4 => ?_) (fun hb4 => ?_)
        · have hk3 : okD x k1 = false := or_no1 hb4 (by simp only [okD, hx, ite_tt, ite_ff, gt_iff_lt, ge_iff_le, not_dlt, not_dle, bne_not, deq, decide_not, ne_eq, Bool.not_and, Bool.not_or, Bool.not_not, Bool.and_true, Bool.true_and, Bool.or_false, Bool.false_or, Int.toNat_natCast] <;> first | rfl | ac_rfl)
          refine W.seq ?_
          refine W.reg X [] [] [2] [] rfl ⟨⟩ ?_
          refine W.ret ?_
          exact Fin.ret rfl ⟨by rw [show okW x = false from by rw [okW, range_no hb3 hk3]; simp], ⟨⟩⟩
        · have hk3 : okD x k1 = true := or_yes hb4 (by simp only [okD, hx, ite_tt, ite_ff, gt_iff_lt, ge_iff_le, not_dlt, not_dle, bne_not, deq, decide_not, ne_eq, Bool.not_and, Bool.not_or, Bool.not_not, Bool.and_true, Bool.true_and, Bool.or_false, Bool.false_or, Int.toNat_natCast] <;> first | rfl | ac_rfl)
          refine W.skip ?_
          refine W.reg X [] [] [1, 111, 112, 113] [] rfl ⟨⟩ ?_
          refine ⟨k1 + 1, ⟨by omega, range_all hall1 hk3⟩, by omega, ?_⟩
          rw [wadd _ k1 rfl (by omega)]
          try rfl
      · try simp only [nb, inr_t, inr_f, isEmpty_t] at hb3
        have hall3 : (List.range x.devices.length).all (okD x) = true := by rw [show x.devices.length = k1 by omega]; exact hall1
        refine W.exit ?_
        refine W.seq ?_
        refine W.reg X [] [] [2] [] rfl ⟨⟩ ?_
        refine W.ret ?_
        exact Fin.ret rfl ⟨by rw [okW, hh, hall2, hall3]; rfl, ⟨⟩⟩
theorem c_spec_l32Servers (x : Wld) : Sound ty Tryz.prog 58 [.agg (dec_Wld x)] [.a (.lit (.bool (svW x)))] := by
  refine Sound.of X Tryz.call58 Tryz.func58 rfl rfl (by decide) Tryz.ntmps58 (by simp) ?_
  intro zb
  refine W.boundA 0 1 rfl rfl (fun hl1 => ?_)
  refine W.boundA 0 2 rfl rfl (fun hl2 => ?_)
  refine W.seq ?_
  refine W.reg X [] [] [1] [] rfl ⟨⟩ ?_
  refine W.seq ?_
  refine W.seq ?_
  refine W.reg X [] [] [1, 3] [] rfl ⟨⟩ ?_
  refine W.block ?_
  refine W.loopO (fun k => k ≤ x.servers.length ∧ (List.range k).all (okS x) = true) (fun k : Nat => [(3, .one (.a (.lit (.int .i64 k))))]) (fun k => []) (fun k => x.servers.length - k) 0 (fun k => rfl) ⟨Nat.zero_le _, rfl⟩ rfl ?_
  rintro k ⟨hk, hall⟩
  refine W.seq ?_
  refine W.seq ?_
  refine W.reg X [] [] [1, 3, 9] [] rfl ⟨⟩ ?_
  refine W.cond rfl (fun hb0 => ?_) (fun hb0 => ?_)
  · try simp only [nb, inr_t, inr_f, isEmpty_t] at hb0
    refine W.skip ?_
    refine W.seq ?_
    refine W.block ?_
    refine W.seq ?_
    refine W.reg X [] [] [1, 3, 4] [] rfl (by (repeat' (first | exact True.intro | apply And.intro)) <;> first | (intros; omega)) ?_
    refine W.seq ?_
    refine W.reg X [] [(18, ⟨false, [.a (.lit (.bool (okSrv (x.servers.getD k (dfl .Srv)))))]⟩)] [1, 3, 45] [] rfl (by (repeat' (first | with_reducible exact AllP.nil | with_reducible refine AllP.mk ?_ ?_ | with_reducible apply And.intro)) <;> skip; (iterate 1 (all_goals try (first | exact (c_spec_IsValidServer (x.servers.getD k (dfl .Srv))))))) ?_
    refine W.cond rfl (fun hb1 => ?_) (fun hb1 => ?_)
    · have hk2 : okS x k = false := or_no1 hb1 (by simp only [okS, ite_tt, ite_ff, gt_iff_lt, ge_iff_le, not_dlt, not_dle, bne_not, deq, decide_not, ne_eq, Bool.not_and, Bool.not_or, Bool.not_not, Bool.and_true, Bool.true_and, Bool.or_false, Bool.false_or, Int.toNat_natCast] <;> first | rfl | ac_rfl)
      refine W.seq ?_
      refine W.reg X [] [] [2] [] rfl ⟨⟩ ?_
      refine W.ret ?_
      exact Fin.ret rfl ⟨by rw [show svW x = false from by rw [svW, range_no hb0 hk2]; simp], ⟨⟩⟩
    · have hk2 : okS x k = true := or_yes hb1 (by simp only [okS, ite_tt, ite_ff, gt_iff_lt, ge_iff_le, not_dlt, not_dle, bne_not, deq, decide_not, ne_eq, Bool.not_and, Bool.not_or, Bool.not_not, Bool.and_true, Bool.true_and, Bool.or_false, Bool.false_or, Int.toNat_natCast] <;> first | rfl | ac_rfl)
      refine W.skip ?_
      refine W.reg X [] [] [1, 3] [] rfl ⟨⟩ ?_
      refine ⟨k + 1, ⟨by omega, range_all hall hk2⟩, by omega, ?_⟩
      rw [wadd _ k rfl (by omega)]
      try rfl
  · try simp only [nb, inr_t, inr_f, isEmpty_t] at hb0
    have hall2 : (List.range x.servers.length).all (okS x) = true := by rw [show x.servers.length = k by omega]; exact hall
    refine W.exit ?_
    refine W.seq ?_
    refine W.reg X [] [(49, ⟨false, [.a (.lit (.bool _))]⟩)] [2] [] rfl (by (repeat' (first | with_reducible exact AllP.nil | with_reducible refine AllP.mk ?_ ?_ | with_reducible apply And.intro)) <;> skip; (iterate 1 (all_goals try (first | exact (c_spec_l7Count _))))) ?_
    refine W.ret ?_
    exact Fin.ret rfl ⟨by rw [svW, hall2]; rfl, ⟨⟩⟩
theorem c_spec_l32Devices (x : Wld) : Sound ty Tryz.prog 59 [.agg (dec_Wld x)] [.a (.lit (.bool (dvW x)))] := by
  refine Sound.of X Tryz.call59 Tryz.func59 rfl rfl (by decide) Tryz.ntmps59 (by simp) ?_
  intro zb
  refine W.boundA 0 1 rfl rfl (fun hl1 => ?_)
  refine W.boundA 0 2 rfl rfl (fun hl2 => ?_)
  refine W.seq ?_
  refine W.reg X [] [] [1] [] rfl ⟨⟩ ?_
  refine W.seq ?_
  refine W.reg X [] [] [1, 3] [] rfl ⟨⟩ ?_
  refine W.seq ?_
  refine W.seq ?_
  refine W.reg X [] [(14, ⟨false, [.a (.lit (.bool (inr (x.devices.length : Int) 2 8)))]⟩)] [1, 3, 16] [] rfl (by (repeat' (first | with_reducible exact AllP.nil | with_reducible refine AllP.mk ?_ ?_ | with_reducible apply And.intro)) <;> skip; (iterate 1 (all_goals try (first | exact fun _ => (c_spec_l1In (x.devices.length : Int) 2 8)))); all_goals (first | (intros; omega))) ?_
  refine W.cond rfl (fun hb0 => ?_) (fun hb0 => ?_)
  · skip
    refine W.seq ?_
    refine W.reg X [] [] [2] [] rfl ⟨⟩ ?_
    refine W.ret ?_
    exact Fin.ret rfl ⟨by rw [show dvW x = false from by rw [dvW, or_no1 (R := ((x.devices.length : Int).tmod 2 == 0) && inr x.devices.length 2 8) hb0 (by simp only [ite_tt, ite_ff, gt_iff_lt, ge_iff_le, not_dlt, not_dle, bne_not, deq, decide_not, ne_eq, Bool.not_and, Bool.not_or, Bool.not_not, Bool.and_true, Bool.true_and, Bool.or_false, Bool.false_or, Int.toNat_natCast] <;> first | rfl | ac_rfl)]; rfl], ⟨⟩⟩
  · have hh : (((x.devices.length : Int).tmod 2 == 0) && inr x.devices.length 2 8) = true := or_yes hb0 (by simp only [ite_tt, ite_ff, gt_iff_lt, ge_iff_le, not_dlt, not_dle, bne_not, deq, decide_not, ne_eq, Bool.not_and, Bool.not_or, Bool.not_not, Bool.and_true, Bool.true_and, Bool.or_false, Bool.false_or, Int.toNat_natCast] <;> first | rfl | ac_rfl)
    have hev : x.devices.length % 2 = 0 := by simp only [Bool.and_eq_true, beq_iff_eq] at hh; have := hh.1; rw [tmod_pos (by omega)] at this; omega
    have hd8 : x.devices.length ≤ 8 := by simp only [Bool.and_eq_true, inr_t] at hh; omega
    refine W.skip ?_
    refine W.seq ?_
    refine W.seq ?_
    refine W.reg X [] [] [1, 3, 4] [] rfl ⟨⟩ ?_
    refine W.block ?_
    refine W.loopO (fun k => k ≤ x.devices.length ∧ (List.range k).all (okD x) = true) (fun k : Nat => [(4, .one (.a (.lit (.int .i64 k))))]) (fun k => []) (fun k => x.devices.length - k) 0 (fun k => rfl) ⟨Nat.zero_le _, rfl⟩ rfl ?_
    rintro k ⟨hk, hall⟩
    refine W.seq ?_
    refine W.seq ?_
    refine W.reg X [] [] [1, 3, 4, 19] [] rfl ⟨⟩ ?_
    refine W.cond rfl (fun hb1 => ?_) (fun hb1 => ?_)
    · try simp only [nb, inr_t, inr_f, isEmpty_t] at hb1
      have hx := xorN k (by omega)
      have hlt := xor_lt k x.devices.length hb1 hev
      refine W.skip ?_
      refine W.seq ?_
      refine W.block ?_
      refine W.seq ?_
      refine W.reg X [] [] [1, 3, 4, 5] [] rfl (by (repeat' (first | exact True.intro | apply And.intro)) <;> first | (intros; omega)) ?_
      refine W.seq ?_
      refine W.draw X [] [(28, ⟨false, [.a (.lit (.bool (okDev (x.devices.getD k (dfl .Dev)))))]⟩)] [1, 3, 4, 66] [] 40 MO (by kernel_rfl) rfl (by (repeat' (first | with_reducible exact AllP.nil | with_reducible refine AllP.mk ?_ ?_ | with_reducible apply And.intro)) <;> skip; (iterate 1 (all_goals try (first | exact (c_spec_IsValidDevice (x.devices.getD k (dfl .Dev)))))); all_goals (first | ((intro h1; first | (intro h2; first | (intro h3; refine And.intro ?_ ?_) | refine And.intro ?_ ?_) | refine And.intro ?_ ?_) <;> first | omega | ((try simp only [nb, inr_t, inr_f] at *); (try simp (disch := omega) only [i64w]); omega)))) ?_
      refine W.cond rfl (fun hb2 => ?_) (fun hb2 => ?_)
      · have hk3 : okD x k = false := or_no1 hb2 (by simp only [okD, hx, ite_tt, ite_ff, gt_iff_lt, ge_iff_le, not_dlt, not_dle, bne_not, deq, decide_not, ne_eq, Bool.not_and, Bool.not_or, Bool.not_not, Bool.and_true, Bool.true_and, Bool.or_false, Bool.false_or, Int.toNat_natCast] <;> first | rfl | ac_rfl)
        refine W.seq ?_
        refine W.reg X [] [] [2] [] rfl ⟨⟩ ?_
        refine W.ret ?_
        exact Fin.ret rfl ⟨by rw [show dvW x = false from by rw [dvW, range_no hb1 hk3]; simp], ⟨⟩⟩
      · have hk3 : okD x k = true := or_yes hb2 (by simp only [okD, hx, ite_tt, ite_ff, gt_iff_lt, ge_iff_le, not_dlt, not_dle, bne_not, deq, decide_not, ne_eq, Bool.not_and, Bool.not_or, Bool.not_not, Bool.and_true, Bool.true_and, Bool.or_false, Bool.false_or, Int.toNat_natCast] <;> first | rfl | ac_rfl)
        refine W.skip ?_
        refine W.reg X [] [] [1, 3, 4] [] rfl ⟨⟩ ?_
        refine ⟨k + 1, ⟨by omega, range_all hall hk3⟩, by omega, ?_⟩
        rw [wadd _ k rfl (by omega)]
        try rfl
    · try simp only [nb, inr_t, inr_f, isEmpty_t] at hb1
      have hall3 : (List.range x.devices.length).all (okD x) = true := by rw [show x.devices.length = k by omega]; exact hall
      refine W.exit ?_
      refine W.seq ?_
      refine W.reg X [] [] [2] [] rfl ⟨⟩ ?_
      refine W.ret ?_
      exact Fin.ret rfl ⟨by rw [dvW, hh, hall3]; rfl, ⟨⟩⟩
theorem c_spec_IsValidWorld (x : Wld) : Sound ty Tryz.prog 26 [.agg (dec_Wld x)] [.a (.lit (.bool (okW x)))] := by
  refine Sound.of X Tryz.call26 Tryz.func26 rfl rfl (by decide) Tryz.ntmps26 (by simp) ?_
  intro zb
  refine W.seq ?_
  refine W.reg X [] [] [1] [] rfl ⟨⟩ ?_
  refine W.seq ?_
  refine W.draw X [] [(5, ⟨false, [.a (.lit (.bool (inr x.rows 1 64)))]⟩), (9, ⟨false, [.a (.lit (.bool (inr x.round 0 100000)))]⟩), (13, ⟨false, [.a (.lit (.bool (svW x)))]⟩), (17, ⟨false, [.a (.lit (.bool (dvW x)))]⟩), (22, ⟨false, [.a (.lit (.bool (okArc x.archive)))]⟩), (35, ⟨false, [.a (.lit (.int .i64 (lastR x.archive)))]⟩), (43, ⟨false, [.a (.lit (.bool (okKey x.master)))]⟩)] [2] [] 48 MO (by kernel_rfl) rfl (by (repeat' (first | with_reducible exact AllP.nil | with_reducible refine AllP.mk ?_ ?_ | with_reducible apply And.intro)) <;> skip; (iterate 7 (all_goals try (first | exact (c_spec_l1In x.rows 1 64) | exact fun _ => (c_spec_l1In x.round 0 100000) | exact fun _ => (c_spec_l32Servers x) | exact fun _ => (c_spec_l32Devices x) | exact fun _ => (c_spec_IsValidArchive x.archive) | exact fun _ => (c_spec_LastRound x.archive) | exact fun _ => (c_spec_IsValidKey x.master))))) ?_
  refine W.ret ?_
  exact Fin.ret rfl ⟨(congrArg Value.bool (by simp only [okW, hdW, svW, dvW, ite_tt, ite_ff, gt_iff_lt, ge_iff_le, not_dlt, not_dle, bne_not, deq, decide_not, ne_eq, Bool.not_and, Bool.not_or, Bool.not_not, Bool.and_true, Bool.true_and, Bool.or_false, Bool.false_or, Int.toNat_natCast] <;> first | rfl | ac_rfl)), ⟨⟩⟩
theorem c_impl_SealCell (key c : Int) (p : Plain) : Sound ty Tryz.prog 187 [.a (.lit (.int .i64 key)), .a (.lit (.int .i64 c)), .agg (dec_Plain p)] [.a (.sl .u8 (sealC key c p)), .a (.lit (.bool (sealOK key c p)))] := by
  refine Sound.of X Tryz.call187 Tryz.func187 rfl rfl (by decide) Tryz.ntmps187 (by simp) ?_
  intro zb
  refine W.seq ?_
  refine W.reg X [] [] [0, 1, 5] [] rfl ⟨⟩ ?_
  refine W.seq ?_
  refine W.seq ?_
  refine W.reg X [] [(11, ⟨false, [.a (.lit (.bool (okKey key)))]⟩), (15, ⟨false, [.a (.lit (.bool (inr c 0 1000000000000)))]⟩), (20, ⟨false, [.a (.lit (.bool (okPlain p)))]⟩)] [0, 1, 5, 22] [] rfl (by (repeat' (first | with_reducible exact AllP.nil | with_reducible refine AllP.mk ?_ ?_ | with_reducible apply And.intro)) <;> skip; (iterate 3 (all_goals try (first | exact (c_impl_IsValidKey key) | exact fun _ => (c_impl_InRange c 0 1000000000000) | exact fun _ => (c_impl_IsValidPlain p))))) ?_
  refine W.cond rfl (fun hb0 => ?_) (fun hb0 => ?_)
  · have hk : sealOK key c p = false := or_no1 hb0 (by simp only [sealOK, ite_tt, ite_ff, gt_iff_lt, ge_iff_le, not_dlt, not_dle, bne_not, deq, decide_not, ne_eq, Bool.not_and, Bool.not_or, Bool.not_not, Bool.and_true, Bool.true_and, Bool.or_false, Bool.false_or, Int.toNat_natCast] <;> first | rfl | ac_rfl)
    refine W.seq ?_
    refine W.reg X [] [] [6, 7] [] rfl ⟨⟩ ?_
    refine W.ret ?_
    exact Fin.ret rfl ⟨by rw [sealC, if_neg (by rw [hk]; decide)], by rw [hk], ⟨⟩⟩
  · have hk : sealOK key c p = true := or_yes hb0 (by simp only [sealOK, ite_tt, ite_ff, gt_iff_lt, ge_iff_le, not_dlt, not_dle, bne_not, deq, decide_not, ne_eq, Bool.not_and, Bool.not_or, Bool.not_not, Bool.and_true, Bool.true_and, Bool.or_false, Bool.false_or, Int.toNat_natCast] <;> first | rfl | ac_rfl)
    have hp := sealOK_body hk
    have hst : (stream (kh key [61, c]) (18 : Int).toNat).length = 18 := stream_len _ _
    have hpl : (padded key c p).length ≤ 100 := by unfold padded; simp only [List.length_append, List.length_drop, List.length_cons, List.length_nil, stream_len]; omega
    have hf4 : (four (ccheck key c (encr (ckey key c) (padded key c p)))).length = 4 := rfl
    have hel : (encr (ckey key c) (padded key c p)).length ≤ 100 := by rw [encr_len]; exact hpl
    refine W.skip ?_
    refine W.seq ?_
    refine W.reg X [(33, 30)] [] [0, 1, 5, 8] [] rfl (by (repeat' (first | exact True.intro | apply And.intro)) <;> first | exact rfl | exact (u8w _).1 | exact (u8w _).2 | (simp only [byt, maxLen, lens]; omega)) ?_
    refine W.seq ?_
    refine W.draw X [(44, 30)] [(38, ⟨false, [.a (.lit (.int .i64 (kh key [61, c])))]⟩), (39, ⟨true, [.a (.sl .u8 (stream (kh key [61, c]) (18 : Int).toNat))]⟩)] [0, 1, 8] [] 10 MO (by kernel_rfl) rfl (by (repeat' (first | with_reducible exact AllP.nil | with_reducible refine AllP.mk ?_ ?_ | with_reducible apply And.intro)) <;> skip; (iterate 2 (all_goals try (first | exact (c_impl_KeyedHash key [61, c] (by first | assumption | omega | (simp; done) | (simp; omega))) | exact (c_impl_StreamBytes (kh key [61, c]) 18 (by first | assumption | omega | (simp; done) | (simp; omega)) (by first | assumption | omega | (simp; done) | (simp; omega)))))); all_goals (first | (intros; omega) | exact rfl | exact ⟨rfl, El_all _ (by decide)⟩ | (simp only [byt, maxLen, lens]; omega))) ?_
    refine W.seq ?_
    refine W.reg X [] [(47, ⟨false, [.a (.lit (.int .i64 (ckey key c)))]⟩), (49, ⟨true, [.a (.sl .u8 (encr (ckey key c) (padded key c p)))]⟩)] [0, 1, 9] [] rfl (by (repeat' (first | with_reducible exact AllP.nil | with_reducible refine AllP.mk ?_ ?_ | with_reducible apply And.intro)) <;> skip; (iterate 2 (all_goals try (first | exact (c_impl_cellKey key c) | exact (c_impl_Encrypt (ckey key c) (padded key c p) (by first | assumption | omega | (simp; done) | (simp; omega))))))) ?_
    refine W.seq ?_
    refine W.reg X [(55, 49)] [(54, ⟨true, [.a (.sl .u8 (four (ccheck key c (encr (ckey key c) (padded key c p)))))]⟩)] [6, 7] [] rfl (by (repeat' (first | with_reducible exact AllP.nil | with_reducible refine AllP.mk ?_ ?_ | with_reducible apply And.intro)) <;> skip; (iterate 1 (all_goals try (first | exact (c_impl_checkBytes key c (encr (ckey key c) (padded key c p)) (by first | assumption | omega | (simp; done) | (simp; omega)))))); all_goals (first | exact rfl | (simp only [byt, maxLen, lens]; omega))) ?_
    refine W.ret ?_
    exact Fin.ret rfl ⟨by rw [sealC, if_pos hk], by rw [hk], ⟨⟩⟩
theorem c_spec_SealCell (key c : Int) (p : Plain) : Sound ty Tryz.prog 174 [.a (.lit (.int .i64 key)), .a (.lit (.int .i64 c)), .agg (dec_Plain p)] [.a (.sl .u8 (sealC key c p)), .a (.lit (.bool (sealOK key c p)))] := by
  refine Sound.of X Tryz.call174 Tryz.func174 rfl rfl (by decide) Tryz.ntmps174 (by simp) ?_
  intro zb
  refine W.seq ?_
  refine W.reg X [] [] [0, 1, 5] [] rfl ⟨⟩ ?_
  refine W.seq ?_
  refine W.seq ?_
  refine W.reg X [] [(12, ⟨false, [.a (.lit (.bool (okKey key)))]⟩), (16, ⟨false, [.a (.lit (.bool (inr c 0 1000000000000)))]⟩), (21, ⟨false, [.a (.lit (.bool (okPlain p)))]⟩)] [0, 1, 5, 23] [] rfl (by (repeat' (first | with_reducible exact AllP.nil | with_reducible refine AllP.mk ?_ ?_ | with_reducible apply And.intro)) <;> skip; (iterate 3 (all_goals try (first | exact (c_spec_IsValidKey key) | exact fun _ => (c_spec_l1In c 0 1000000000000) | exact fun _ => (c_spec_IsValidPlain p))))) ?_
  refine W.cond rfl (fun hb0 => ?_) (fun hb0 => ?_)
  · have hk : sealOK key c p = false := or_no1 hb0 (by simp only [sealOK, ite_tt, ite_ff, gt_iff_lt, ge_iff_le, not_dlt, not_dle, bne_not, deq, decide_not, ne_eq, Bool.not_and, Bool.not_or, Bool.not_not, Bool.and_true, Bool.true_and, Bool.or_false, Bool.false_or, Int.toNat_natCast] <;> first | rfl | ac_rfl)
    refine W.seq ?_
    refine W.reg X [] [] [6, 7] [] rfl (by (repeat' (first | exact True.intro | apply And.intro)) <;> first | exact rfl) ?_
    refine W.ret ?_
    exact Fin.ret rfl ⟨by rw [sealC, if_neg (by rw [hk]; decide)], by rw [hk], ⟨⟩⟩
  · have hk : sealOK key c p = true := or_yes hb0 (by simp only [sealOK, ite_tt, ite_ff, gt_iff_lt, ge_iff_le, not_dlt, not_dle, bne_not, deq, decide_not, ne_eq, Bool.not_and, Bool.not_or, Bool.not_not, Bool.and_true, Bool.true_and, Bool.or_false, Bool.false_or, Int.toNat_natCast] <;> first | rfl | ac_rfl)
    have hp := sealOK_body hk
    have hst : (stream (kh key [61, c]) (18 : Int).toNat).length = 18 := stream_len _ _
    have hpl : (padded key c p).length ≤ 100 := by unfold padded; simp only [List.length_append, List.length_drop, List.length_cons, List.length_nil, stream_len]; omega
    have hf4 : (four (ccheck key c (encr (ckey key c) (padded key c p)))).length = 4 := rfl
    have hel : (encr (ckey key c) (padded key c p)).length ≤ 100 := by rw [encr_len]; exact hpl
    refine W.skip ?_
    refine W.seq ?_
    refine W.reg X [(35, 32)] [] [0, 1, 5, 8] [] rfl (by (repeat' (first | exact True.intro | apply And.intro)) <;> first | exact rfl | exact (u8w _).1 | exact (u8w _).2 | (simp only [byt, maxLen, lens]; omega)) ?_
    refine W.seq ?_
    refine W.draw X [(46, 32)] [(40, ⟨false, [.a (.lit (.int .i64 (kh key [61, c])))]⟩), (41, ⟨true, [.a (.sl .u8 (stream (kh key [61, c]) (18 : Int).toNat))]⟩)] [0, 1, 8] [] 10 MO (by kernel_rfl) rfl (by (repeat' (first | with_reducible exact AllP.nil | with_reducible refine AllP.mk ?_ ?_ | with_reducible apply And.intro)) <;> skip; (iterate 2 (all_goals try (first | exact (c_spec_KeyedHash key [61, c] (by first | assumption | omega | (simp; done) | (simp; omega))) | exact (c_spec_StreamBytes (kh key [61, c]) 18 (by first | assumption | omega | (simp; done) | (simp; omega)) (by first | assumption | omega | (simp; done) | (simp; omega)))))); all_goals (first | (intros; omega) | exact rfl | exact ⟨rfl, El_all _ (by decide)⟩ | (simp only [byt, maxLen, lens]; omega))) ?_
    refine W.seq ?_
    refine W.reg X [] [(49, ⟨false, [.a (.lit (.int .i64 (ckey key c)))]⟩), (51, ⟨true, [.a (.sl .u8 (encr (ckey key c) (padded key c p)))]⟩)] [0, 1, 9] [] rfl (by (repeat' (first | with_reducible exact AllP.nil | with_reducible refine AllP.mk ?_ ?_ | with_reducible apply And.intro)) <;> skip; (iterate 2 (all_goals try (first | exact (c_spec_l13Cipher key c) | exact (c_spec_Encrypt (ckey key c) (padded key c p) (by first | assumption | omega | (simp; done) | (simp; omega))))))) ?_
    refine W.seq ?_
    refine W.reg X [] [(55, ⟨false, [.a (.lit (.int .i64 (ccheck key c (encr (ckey key c) (padded key c p)))))]⟩)] [9, 10] [] rfl (by (repeat' (first | with_reducible exact AllP.nil | with_reducible refine AllP.mk ?_ ?_ | with_reducible apply And.intro)) <;> skip; (iterate 1 (all_goals try (first | exact (c_spec_CellCheck key c (encr (ckey key c) (padded key c p)) (by first | assumption | omega | (simp; done) | (simp; omega))))))) ?_
    refine W.seq ?_
    refine W.reg X [(69, 51)] [] [6, 7] [] rfl (by (repeat' (first | exact True.intro | apply And.intro)) <;> first | (intros; omega) | exact rfl | exact (u8w _).1 | exact (u8w _).2 | (simp only [byt, maxLen, lens]; omega)) ?_
    refine W.ret ?_
    exact Fin.ret rfl ⟨(congrArg (fun z => encr (ckey key c) (padded key c p) ++ z) (four_eq _)).trans (by rw [sealC, if_pos hk]), by rw [hk], ⟨⟩⟩
theorem c_impl_hasClient (x : Wld) (c : Int) : Sound ty Tryz.prog 86 [.agg (dec_Wld x), .a (.lit (.int .i64 c))] [.a (.lit (.bool (hasC x c)))] := by
  refine Sound.of X Tryz.call86 Tryz.func86 rfl rfl (by decide) Tryz.ntmps86 (by simp) ?_
  intro zb
  refine W.boundA 0 2 rfl rfl (fun hl2 => ?_)
  refine W.seq ?_
  refine W.reg X [] [] [1, 2] [] rfl ⟨⟩ ?_
  refine W.seq ?_
  refine W.reg X [] [(10, ⟨false, [.a (.lit (.bool _))]⟩)] [4] [] rfl (by (repeat' (first | with_reducible exact AllP.nil | with_reducible refine AllP.mk ?_ ?_ | with_reducible apply And.intro)) <;> skip; (iterate 1 (all_goals try (first | exact (c_impl_InRange _ _ _))))) ?_
  refine W.ret ?_
  exact Fin.ret rfl ⟨by rw [i64w (by omega)]; rfl, ⟨⟩⟩
theorem c_impl_direction (c : Cli) : Sound ty Tryz.prog 138 [.agg (dec_Cli c)] [.a (.lit (.int .i64 (dirn c)))] := by
  refine Sound.of X Tryz.call138 Tryz.func138 rfl rfl (by decide) Tryz.ntmps138 (by simp) ?_
  intro zb
  refine W.seq ?_
  refine W.reg X [] [] [1] [] rfl ⟨⟩ ?_
  refine W.seq ?_
  refine W.seq ?_
  refine W.reg X [] [] [7] [] rfl ⟨⟩ ?_
  refine W.cond rfl (fun hb0 => ?_) (fun hb0 => ?_)
  · try simp only [nb, inr_t, inr_f, isEmpty_t] at hb0
    refine W.seq ?_
    refine W.reg X [] [] [2] [] rfl ⟨⟩ ?_
    refine W.ret ?_
    exact Fin.ret rfl ⟨by rw [dirn, if_pos hb0], ⟨⟩⟩
  · try simp only [nb, inr_t, inr_f, isEmpty_t] at hb0
    refine W.skip ?_
    refine W.seq ?_
    refine W.reg X [] [] [2] [] rfl ⟨⟩ ?_
    refine W.ret ?_
    exact Fin.ret rfl ⟨by rw [dirn, if_neg (by omega)], ⟨⟩⟩
theorem c_impl_messageCell (c : Cli) (a : Int) (h0 : 0 ≤ a) (h1 : a < c.submitted.length) : Sound ty Tryz.prog 139 [.agg (dec_Cli c), .a (.lit (.int .i64 a))] [.a (.sl .u8 (mcell c a))] := by
  refine Sound.of X Tryz.call139 Tryz.func139 rfl rfl (by decide) Tryz.ntmps139 (by simp) ?_
  intro zb
  refine W.seq ?_
  refine W.reg X [] [] [1, 2] [] rfl ⟨⟩ ?_
  refine W.seq ?_
  refine W.draw X [] [(11, ⟨false, [.a (.lit (.int .i64 (dirn c)))]⟩), (12, ⟨false, [.a (.lit (.int .i64 (dkey c.key (dirn c))))]⟩), (20, ⟨true, [.a (.sl .u8 (sealC (dkey c.key (dirn c)) a (⟨1, (c.submitted.getD (a).toNat (dfl (.sl .u8)))⟩ : Plain))), .a (.lit (.bool (sealOK (dkey c.key (dirn c)) a (⟨1, (c.submitted.getD (a).toNat (dfl (.sl .u8)))⟩ : Plain))))]⟩)] [5] [] 18 MO (by kernel_rfl) rfl (by (repeat' (first | with_reducible exact AllP.nil | with_reducible refine AllP.mk ?_ ?_ | with_reducible apply And.intro)) <;> skip; (iterate 3 (all_goals try (first | exact (c_impl_direction c) | exact (c_impl_DirectionKey c.key (dirn c)) | exact (c_impl_SealCell (dkey c.key (dirn c)) a (⟨1, (c.submitted.getD (a).toNat (dfl (.sl .u8)))⟩ : Plain))))); all_goals (first | (intros; omega))) ?_
  refine W.seq ?_
  refine W.reg X [] [] [4] [] rfl ⟨⟩ ?_
  refine W.ret ?_
  exact Fin.ret rfl ⟨rfl, ⟨⟩⟩
theorem c_impl_ClientWrite (c : Cli) (r n : Int) : Sound ty Tryz.prog 87 [.agg (dec_Cli c), .a (.lit (.int .i64 r)), .a (.lit (.int .i64 n))] [.a (.lit (.int .i64 (cwRow c r n))), .a (.sl .u8 (cwCell c r n)), .a (.lit (.bool (cwOK c r n)))] := by
  refine Sound.of X Tryz.call87 Tryz.func87 rfl rfl (by decide) Tryz.ntmps87 (by simp) ?_
  intro zb
  refine W.boundA 0 4 rfl rfl (fun hll => ?_)
  refine W.seq ?_
  refine W.reg X [] [] [1, 2, 3] [] rfl ⟨⟩ ?_
  refine W.seq ?_
  refine W.seq ?_
  refine W.reg X [] [(10, ⟨false, [.a (.lit (.bool (okCli c)))]⟩), (14, ⟨false, [.a (.lit (.bool (inr r 0 100000)))]⟩), (19, ⟨false, [.a (.lit (.bool (inr n 1 64)))]⟩)] [1, 2, 3, 21] [] rfl (by (repeat' (first | with_reducible exact AllP.nil | with_reducible refine AllP.mk ?_ ?_ | with_reducible apply And.intro)) <;> skip; (iterate 3 (all_goals try (first | exact (c_impl_IsValidClient c) | exact fun _ => (c_impl_InRange r 0 100000) | exact fun _ => (c_impl_InRange n 1 64))))) ?_
  refine W.cond rfl (fun hb0 => ?_) (fun hb0 => ?_)
  · have hk : cwOK c r n = false := or_no1 hb0 (by simp only [cwOK, ite_tt, ite_ff, gt_iff_lt, ge_iff_le, not_dlt, not_dle, bne_not, deq, decide_not, ne_eq, Bool.not_and, Bool.not_or, Bool.not_not, Bool.and_true, Bool.true_and, Bool.or_false, Bool.false_or, Int.toNat_natCast] <;> first | rfl | ac_rfl)
    refine W.seq ?_
    refine W.reg X [] [] [6, 7, 8] [] rfl ⟨⟩ ?_
    refine W.ret ?_
    exact Fin.ret rfl ⟨by rw [cwRow, if_neg (by rw [hk]; decide)], by rw [cwCell, if_neg (by rw [hk]; decide)], by rw [hk], ⟨⟩⟩
  · have hk : cwOK c r n = true := or_yes hb0 (by simp only [cwOK, ite_tt, ite_ff, gt_iff_lt, ge_iff_le, not_dlt, not_dle, bne_not, deq, decide_not, ne_eq, Bool.not_and, Bool.not_or, Bool.not_not, Bool.and_true, Bool.true_and, Bool.or_false, Bool.false_or, Int.toNat_natCast] <;> first | rfl | ac_rfl)
    have hs := cwOK_sent hk
    refine W.skip ?_
    refine W.seq ?_
    refine W.seq ?_
    refine W.reg X [] [] [1, 2, 3, 27] [] rfl ⟨⟩ ?_
    refine W.cond rfl (fun hb1 => ?_) (fun hb1 => ?_)
    · try simp only [nb, inr_t, inr_f, isEmpty_t] at hb1
      refine W.seq ?_
      refine W.draw X [] [(32, ⟨false, [.a (.lit (.int .i64 (dirn c)))]⟩), (34, ⟨false, [.a (.lit (.int .i64 (mrow c.key r (dirn c) n)))]⟩), (38, ⟨true, [.a (.sl .u8 (mcell c c.sent))]⟩)] [6, 7, 8] [] 14 MO (by kernel_rfl) rfl (by (repeat' (first | with_reducible exact AllP.nil | with_reducible refine AllP.mk ?_ ?_ | with_reducible apply And.intro)) <;> skip; (iterate 3 (all_goals try (first | exact (c_impl_direction c) | exact (c_impl_MailboxRow c.key r (dirn c) n) | exact (c_impl_messageCell c c.sent (by first | assumption | omega | (simp; done) | (simp; omega)) (by first | assumption | omega | (simp; done) | (simp; omega))))))) ?_
      refine W.ret ?_
      exact Fin.ret rfl ⟨by rw [cwRow, if_pos hk, if_pos hb1], by rw [cwCell, if_pos hk, if_pos hb1], by rw [hk], ⟨⟩⟩
    · try simp only [nb, inr_t, inr_f, isEmpty_t] at hb1
      refine W.skip ?_
      refine W.seq ?_
      refine W.draw X [] [(43, ⟨false, [.a (.lit (.int .i64 (crow c.seed r n)))]⟩), (48, ⟨false, [.a (.lit (.int .i64 (kh c.seed [r])))]⟩), (49, ⟨true, [.a (.sl .u8 (cover (kh c.seed [r])))]⟩)] [6, 7, 8] [] 14 MO (by kernel_rfl) rfl (by (repeat' (first | with_reducible exact AllP.nil | with_reducible refine AllP.mk ?_ ?_ | with_reducible apply And.intro)) <;> skip; (iterate 3 (all_goals try (first | exact (c_impl_CoverRow c.seed r n) | exact (c_impl_KeyedHash c.seed [r] (by first | assumption | omega | (simp; done) | (simp; omega))) | exact (c_impl_CoverCell (kh c.seed [r]))))); all_goals (first | exact ⟨rfl, El_all _ (by decide)⟩)) ?_
      refine W.ret ?_
      exact Fin.ret rfl ⟨by rw [cwRow, if_pos hk, if_neg (by omega)], by rw [cwCell, if_pos hk, if_neg (by omega)], by rw [hk], ⟨⟩⟩
theorem c_spec_l29Direction (c : Cli) : Sound ty Tryz.prog 118 [.agg (dec_Cli c)] [.a (.lit (.int .i64 (dirn c)))] := by
  refine Sound.of X Tryz.call118 Tryz.func118 rfl rfl (by decide) Tryz.ntmps118 (by simp) ?_
  intro zb
  refine W.seq ?_
  refine W.reg X [] [] [1] [] rfl ⟨⟩ ?_
  refine W.seq ?_
  refine W.seq ?_
  refine W.reg X [] [] [7] [] rfl ⟨⟩ ?_
  refine W.cond rfl (fun hb0 => ?_) (fun hb0 => ?_)
  · try simp only [nb, inr_t, inr_f, isEmpty_t] at hb0
    refine W.seq ?_
    refine W.reg X [] [] [2] [] rfl ⟨⟩ ?_
    refine W.ret ?_
    exact Fin.ret rfl ⟨by rw [dirn, if_pos hb0], ⟨⟩⟩
  · try simp only [nb, inr_t, inr_f, isEmpty_t] at hb0
    refine W.skip ?_
    refine W.seq ?_
    refine W.reg X [] [] [2] [] rfl ⟨⟩ ?_
    refine W.ret ?_
    exact Fin.ret rfl ⟨by rw [dirn, if_neg (by omega)], ⟨⟩⟩
theorem c_spec_l29Cell (c : Cli) (h0 : 0 ≤ c.sent) (h1 : c.sent < c.submitted.length) : Sound ty Tryz.prog 119 [.agg (dec_Cli c)] [.a (.sl .u8 (mcell c c.sent))] := by
  refine Sound.of X Tryz.call119 Tryz.func119 rfl rfl (by decide) Tryz.ntmps119 (by simp) ?_
  intro zb
  refine W.seq ?_
  refine W.reg X [] [] [1] [] rfl ⟨⟩ ?_
  refine W.seq ?_
  refine W.draw X [] [(9, ⟨false, [.a (.lit (.int .i64 (dirn c)))]⟩), (10, ⟨false, [.a (.lit (.int .i64 (dkey c.key (dirn c))))]⟩), (20, ⟨true, [.a (.sl .u8 (sealC (dkey c.key (dirn c)) c.sent (⟨1, (c.submitted.getD (c.sent).toNat (dfl (.sl .u8)))⟩ : Plain))), .a (.lit (.bool (sealOK (dkey c.key (dirn c)) c.sent (⟨1, (c.submitted.getD (c.sent).toNat (dfl (.sl .u8)))⟩ : Plain))))]⟩)] [3] [] 20 MO (by kernel_rfl) rfl (by (repeat' (first | with_reducible exact AllP.nil | with_reducible refine AllP.mk ?_ ?_ | with_reducible apply And.intro)) <;> skip; (iterate 3 (all_goals try (first | exact (c_spec_l29Direction c) | exact (c_spec_DirectionKey c.key (dirn c)) | exact (c_spec_SealCell (dkey c.key (dirn c)) c.sent (⟨1, (c.submitted.getD (c.sent).toNat (dfl (.sl .u8)))⟩ : Plain))))); all_goals (first | (intros; omega))) ?_
  refine W.seq ?_
  refine W.reg X [] [] [2] [] rfl ⟨⟩ ?_
  refine W.ret ?_
  exact Fin.ret rfl ⟨rfl, ⟨⟩⟩
theorem c_spec_ClientWrite (c : Cli) (r n : Int) : Sound ty Tryz.prog 66 [.agg (dec_Cli c), .a (.lit (.int .i64 r)), .a (.lit (.int .i64 n))] [.a (.lit (.int .i64 (cwRow c r n))), .a (.sl .u8 (cwCell c r n)), .a (.lit (.bool (cwOK c r n)))] := by
  refine Sound.of X Tryz.call66 Tryz.func66 rfl rfl (by decide) Tryz.ntmps66 (by simp) ?_
  intro zb
  refine W.boundA 0 4 rfl rfl (fun hll => ?_)
  refine W.seq ?_
  refine W.reg X [] [] [1, 2, 3] [] rfl ⟨⟩ ?_
  refine W.seq ?_
  refine W.seq ?_
  refine W.reg X [] [(10, ⟨false, [.a (.lit (.bool (okCli c)))]⟩), (14, ⟨false, [.a (.lit (.bool (inr r 0 100000)))]⟩), (19, ⟨false, [.a (.lit (.bool (inr n 1 64)))]⟩)] [1, 2, 3, 21] [] rfl (by (repeat' (first | with_reducible exact AllP.nil | with_reducible refine AllP.mk ?_ ?_ | with_reducible apply And.intro)) <;> skip; (iterate 3 (all_goals try (first | exact (c_spec_IsValidClient c) | exact fun _ => (c_spec_l1In r 0 100000) | exact fun _ => (c_spec_l1In n 1 64))))) ?_
  refine W.cond rfl (fun hb0 => ?_) (fun hb0 => ?_)
  · have hk : cwOK c r n = false := or_no1 hb0 (by simp only [cwOK, ite_tt, ite_ff, gt_iff_lt, ge_iff_le, not_dlt, not_dle, bne_not, deq, decide_not, ne_eq, Bool.not_and, Bool.not_or, Bool.not_not, Bool.and_true, Bool.true_and, Bool.or_false, Bool.false_or, Int.toNat_natCast] <;> first | rfl | ac_rfl)
    refine W.seq ?_
    refine W.reg X [] [] [6, 7, 8] [] rfl (by (repeat' (first | exact True.intro | apply And.intro)) <;> first | exact rfl) ?_
    refine W.ret ?_
    exact Fin.ret rfl ⟨by rw [cwRow, if_neg (by rw [hk]; decide)], by rw [cwCell, if_neg (by rw [hk]; decide)], by rw [hk], ⟨⟩⟩
  · have hk : cwOK c r n = true := or_yes hb0 (by simp only [cwOK, ite_tt, ite_ff, gt_iff_lt, ge_iff_le, not_dlt, not_dle, bne_not, deq, decide_not, ne_eq, Bool.not_and, Bool.not_or, Bool.not_not, Bool.and_true, Bool.true_and, Bool.or_false, Bool.false_or, Int.toNat_natCast] <;> first | rfl | ac_rfl)
    have hs := cwOK_sent hk
    refine W.skip ?_
    refine W.seq ?_
    refine W.seq ?_
    refine W.reg X [] [] [1, 2, 3, 28] [] rfl ⟨⟩ ?_
    refine W.cond rfl (fun hb1 => ?_) (fun hb1 => ?_)
    · try simp only [nb, inr_t, inr_f, isEmpty_t] at hb1
      refine W.seq ?_
      refine W.draw X [] [(33, ⟨false, [.a (.lit (.int .i64 (dirn c)))]⟩), (35, ⟨false, [.a (.lit (.int .i64 (mrow c.key r (dirn c) n)))]⟩), (37, ⟨true, [.a (.sl .u8 (mcell c c.sent))]⟩)] [6, 7, 8] [] 12 MO (by kernel_rfl) rfl (by (repeat' (first | with_reducible exact AllP.nil | with_reducible refine AllP.mk ?_ ?_ | with_reducible apply And.intro)) <;> skip; (iterate 3 (all_goals try (first | exact (c_spec_l29Direction c) | exact (c_spec_MailboxRow c.key r (dirn c) n) | exact (c_spec_l29Cell c (by first | assumption | omega | (simp; done) | (simp; omega)) (by first | assumption | omega | (simp; done) | (simp; omega))))))) ?_
      refine W.ret ?_
      exact Fin.ret rfl ⟨by rw [cwRow, if_pos hk, if_pos hb1], by rw [cwCell, if_pos hk, if_pos hb1], by rw [hk], ⟨⟩⟩
    · try simp only [nb, inr_t, inr_f, isEmpty_t] at hb1
      refine W.skip ?_
      refine W.seq ?_
      refine W.draw X [] [(42, ⟨false, [.a (.lit (.int .i64 (crow c.seed r n)))]⟩), (47, ⟨false, [.a (.lit (.int .i64 (kh c.seed [r])))]⟩), (48, ⟨true, [.a (.sl .u8 (cover (kh c.seed [r])))]⟩)] [6, 7, 8] [] 14 MO (by kernel_rfl) rfl (by (repeat' (first | with_reducible exact AllP.nil | with_reducible refine AllP.mk ?_ ?_ | with_reducible apply And.intro)) <;> skip; (iterate 3 (all_goals try (first | exact (c_spec_CoverRow c.seed r n) | exact (c_spec_KeyedHash c.seed [r] (by first | assumption | omega | (simp; done) | (simp; omega))) | exact (c_spec_CoverCell (kh c.seed [r]))))); all_goals (first | exact ⟨rfl, El_all _ (by decide)⟩)) ?_
      refine W.ret ?_
      exact Fin.ret rfl ⟨by rw [cwRow, if_pos hk, if_neg (by omega)], by rw [cwCell, if_pos hk, if_neg (by omega)], by rw [hk], ⟨⟩⟩
end Go.Proofs.YthjedjndamejmaaGreat.G
namespace Go.Proofs.YthjedjndamejmaaGreat.G
set_option linter.all false
open Go.RowKit L D
set_option maxRecDepth 100000

end Go.Proofs.YthjedjndamejmaaGreat.G
namespace Go.Proofs.YthjedjndamejmaaGreat.G
set_option linter.all false
open Go.RowKit L D
set_option maxRecDepth 100000

end Go.Proofs.YthjedjndamejmaaGreat.G
namespace Go.Proofs.YthjedjndamejmaaGreat.G
set_option linter.all false
open Go.RowKit L D
set_option maxRecDepth 100000
theorem c_impl_copyDatabase (d : DB) (hs0 : lsz List.length d.rows ≤ 1048576) : Sound ty Tryz.prog 94 [.agg (dec_DB d)] [.agg (dec_DB d)] := by
  refine Sound.of X Tryz.call94 Tryz.func94 rfl rfl (by decide) Tryz.ntmps94 (by simp) ?_
  intro zb
  refine W.seq ?_
  refine W.reg X [] [] [1, 2] [] rfl ⟨⟩ ?_
  refine W.seq ?_
  refine W.reg X [] [(5, ⟨true, [.a (.sl (.sl .u8) d.rows)]⟩)] [2] [] rfl (by (repeat' (first | with_reducible exact AllP.nil | with_reducible refine AllP.mk ?_ ?_ | with_reducible apply And.intro)) <;> skip; (iterate 1 (all_goals try (first | exact (c_impl_copyLists d.rows (by first | assumption | omega | (simp; done) | (simp; omega))))))) ?_
  refine W.ret ?_
  exact Fin.ret rfl ⟨rfl, ⟨⟩⟩
theorem c_spec_l8Copy (d : DB) (hs0 : lsz List.length d.rows ≤ 1048576) : Sound ty Tryz.prog 69 [.agg (dec_DB d)] [.agg (dec_DB d)] := by
  refine Sound.of X Tryz.call69 Tryz.func69 rfl rfl (by decide) Tryz.ntmps69 (by simp) ?_
  intro zb
  refine W.seq ?_
  refine W.reg X [] [] [1, 2] [] rfl ⟨⟩ ?_
  refine W.seq ?_
  refine W.reg X [] [(5, ⟨true, [.a (.sl (.sl .u8) d.rows)]⟩)] [2] [] rfl (by (repeat' (first | with_reducible exact AllP.nil | with_reducible refine AllP.mk ?_ ?_ | with_reducible apply And.intro)) <;> skip; (iterate 1 (all_goals try (first | exact (c_spec_l4Copy d.rows (by first | assumption | omega | (simp; done) | (simp; omega))))))) ?_
  refine W.ret ?_
  exact Fin.ret rfl ⟨rfl, ⟨⟩⟩
theorem c_impl_NewDatabase (rows : Int) : Sound ty Tryz.prog 190 [.a (.lit (.int .i64 rows))] [.agg (dec_DB (newDB rows))] := by
  refine Sound.of X Tryz.call190 Tryz.func190 rfl rfl (by decide) Tryz.ntmps190 (by simp) ?_
  intro zb
  refine W.seq ?_
  refine W.reg X [] [] [0, 2] [] rfl ⟨⟩ ?_
  refine W.seq ?_
  refine W.reg X [] [] [0, 2, 3] [] rfl ⟨⟩ ?_
  refine W.nilOwn 3 0 60 (.sl .u8) rfl ?_
  refine W.seq ?_
  refine W.seq ?_
  refine W.reg X [] [(6, ⟨false, [.a (.lit (.bool (inr rows 0 64)))]⟩)] [0, 2, 3, 6] [] rfl (by (repeat' (first | with_reducible exact AllP.nil | with_reducible refine AllP.mk ?_ ?_ | with_reducible apply And.intro)) <;> skip; (iterate 1 (all_goals try (first | exact (c_impl_InRange rows 0 64))))) ?_
  refine W.cond rfl (fun hb0 => ?_) (fun hb0 => ?_)
  · try simp only [nb, inr_t, inr_f, isEmpty_t] at hb0
    refine W.seq ?_
    refine W.reg X [] [] [2, 3, 7, 8] [] rfl ⟨⟩ ?_
    refine W.block ?_
    refine W.loopO (fun k => k ≤ rows.toNat) (fun k : Nat => [(8, .one (.a (.lit (.int .i64 k))))]) (fun k => [(60, .arr (.sl .u8) ((newDB rows).rows.take k))]) (fun k => rows.toNat - k) 0 (fun k => rfl) (Nat.zero_le _) rfl ?_
    intro k hk
    have hle := take_le_len (newDB rows).rows k
    have hnl := newDB_len rows
    refine W.seq ?_
    refine W.reg X [] [] [2, 3, 7, 8, 9] [] rfl ⟨⟩ ?_
    refine W.seq ?_
    refine W.cond rfl (fun hb1 => ?_) (fun hb1 => ?_)
    · try simp only [nb, inr_t, inr_f, isEmpty_t] at hb1
      have hs := newDB_step rows k (by omega) (by omega)
      refine W.skip ?_
      refine W.seq ?_
      refine W.block ?_
      refine W.draw X [(14, 60)] [(500013, ⟨true, []⟩)] [2, 3, 7, 8] [] 4 MO (by kernel_rfl) rfl (by (repeat' (first | exact True.intro | apply And.intro)) <;> first | (intros; omega) | exact rfl | (simp only [byt, maxLen, lens]; omega)) ?_
      refine W.reg X [] [] [2, 3, 7, 8] [] rfl ⟨⟩ ?_
      refine ⟨k + 1, by omega, by omega, ?_⟩
      rw [wadd _ k rfl (by omega), hs]
      try rfl
    · try simp only [nb, inr_t, inr_f, isEmpty_t] at hb1
      refine W.exit ?_
      refine W.seq ?_
      refine W.reg X [] [] [2] [] rfl (by (repeat' (first | exact True.intro | apply And.intro))) ?_
      refine W.ret ?_
      exact Fin.ret rfl ⟨by rw [newDB_end _ _ (by omega)], ⟨⟩⟩
  · try simp only [nb, inr_t, inr_f, isEmpty_t] at hb0
    refine W.skip ?_
    refine W.seq ?_
    refine W.reg X [] [] [2] [] rfl (by (repeat' (first | exact True.intro | apply And.intro))) ?_
    refine W.ret ?_
    exact Fin.ret rfl ⟨by unfold newDB; dsimp only; rw [if_neg (by omega)], ⟨⟩⟩
theorem c_impl_ReplaceRow (d : DB) (i : Int) (c : List UInt8) (hs0 : lsz List.length d.rows ≤ 1048576) (hc : c.length ≤ 1048576) : Sound ty Tryz.prog 189 [.agg (dec_DB d), .a (.lit (.int .i64 i)), .a (.sl .u8 c)] [.agg (dec_DB (repDB d i c)), .a (.lit (.bool (repOK d i c)))] := by
  refine Sound.of X Tryz.call189 Tryz.func189 rfl rfl (by decide) Tryz.ntmps189 (by simp) ?_
  intro zb
  have hll : d.rows.length ≤ 1048576 := lsz_len hs0
  refine W.seq ?_
  refine W.reg X [] [] [1, 2, 3, 6] [] rfl ⟨⟩ ?_
  refine W.seq ?_
  refine W.reg X [] [(10, ⟨true, [.agg (dec_DB d)]⟩)] [1, 2, 3, 6, 8] [] rfl (by (repeat' (first | with_reducible exact AllP.nil | with_reducible refine AllP.mk ?_ ?_ | with_reducible apply And.intro)) <;> skip; (iterate 1 (all_goals try (first | exact (c_impl_copyDatabase d (by first | assumption | omega | (simp; done) | (simp; omega))))))) ?_
  refine W.seq ?_
  refine W.seq ?_
  refine W.reg X [] [(16, ⟨false, [.a (.lit (.bool (inr i 0 (IntKind.i64.wrap ((d.rows.length : Int) - 1)))))]⟩)] [1, 2, 6, 8, 22] [] rfl (by (repeat' (first | with_reducible exact AllP.nil | with_reducible refine AllP.mk ?_ ?_ | with_reducible apply And.intro)) <;> skip; (iterate 1 (all_goals try (first | exact (c_impl_InRange i 0 (IntKind.i64.wrap ((d.rows.length : Int) - 1))))))) ?_
  refine W.cond rfl (fun hb0 => ?_) (fun hb0 => ?_)
  · have hrk : repOK d i c = false := or_no1 hb0 (by simp only [repOK, ite_tt, ite_ff, gt_iff_lt, ge_iff_le, not_dlt, not_dle, bne_not, deq, decide_not, ne_eq, Bool.not_and, Bool.not_or, Bool.not_not, Bool.and_true, Bool.true_and, Bool.or_false, Bool.false_or, Int.toNat_natCast] <;> first | rfl | ac_rfl)
    refine W.seq ?_
    refine W.reg X [] [] [6, 7] [] rfl (by (repeat' (first | exact True.intro | apply And.intro))) ?_
    refine W.ret ?_
    exact Fin.ret rfl ⟨by rw [repDB_neg hrk], by rw [hrk], ⟨⟩⟩
  · have hrk : repOK d i c = true := or_yes hb0 (by simp only [repOK, ite_tt, ite_ff, gt_iff_lt, ge_iff_le, not_dlt, not_dle, bne_not, deq, decide_not, ne_eq, Bool.not_and, Bool.not_or, Bool.not_not, Bool.and_true, Bool.true_and, Bool.or_false, Bool.false_or, Int.toNat_natCast] <;> first | rfl | ac_rfl)
    have hrb := repOK_b hll hrk
    refine W.skip ?_
    refine W.seq ?_
    refine W.draw X [] [(28, ⟨true, [.a (.sl .u8 _)]⟩)] [6, 8] [] 6 MO (by kernel_rfl) rfl (by (repeat' (first | with_reducible exact AllP.nil | with_reducible refine AllP.mk ?_ ?_ | with_reducible apply And.intro)) <;> skip; (iterate 1 (all_goals try (first | exact (c_slices_Clone_byte_byte _ (by first | assumption | omega | (simp; done) | (simp; omega)))))); all_goals (first | (intros; omega))) ?_
    refine W.seq ?_
    refine W.reg X [] [] [6, 7] [] rfl (by (repeat' (first | exact True.intro | apply And.intro))) ?_
    refine W.ret ?_
    exact Fin.ret rfl ⟨by rw [repDB_pos hrk], by rw [hrk], ⟨⟩⟩
theorem c_impl_XorDatabases (a b : DB) (hs0 : lsz List.length a.rows ≤ 1048576) (hs1 : lsz List.length b.rows ≤ 1048576) : Sound ty Tryz.prog 144 [.agg (dec_DB a), .agg (dec_DB b)] [.agg (dec_DB (xorDB a b)), .a (.lit (.bool (xdOK a b)))] := by
  refine Sound.of X Tryz.call144 Tryz.func144 rfl rfl (by decide) Tryz.ntmps144 (by simp) ?_
  intro zb
  have hla : a.rows.length ≤ 1048576 := lsz_len hs0
  have hlb : b.rows.length ≤ 1048576 := lsz_len hs1
  refine W.seq ?_
  refine W.reg X [] [] [2, 3, 4] [] rfl ⟨⟩ ?_
  refine W.seq ?_
  refine W.reg X [] [(10, ⟨true, [.agg (dec_DB a)]⟩)] [2, 3, 4, 6] [] rfl (by (repeat' (first | with_reducible exact AllP.nil | with_reducible refine AllP.mk ?_ ?_ | with_reducible apply And.intro)) <;> skip; (iterate 1 (all_goals try (first | exact (c_impl_copyDatabase a (by first | assumption | omega | (simp; done) | (simp; omega))))))) ?_
  refine W.seq ?_
  refine W.seq ?_
  refine W.reg X [] [(12, ⟨false, [.a (.lit (.bool (okDB a)))]⟩), (16, ⟨false, [.a (.lit (.bool (okDB b)))]⟩)] [3, 4, 6, 27] [] rfl (by (repeat' (first | with_reducible exact AllP.nil | with_reducible refine AllP.mk ?_ ?_ | with_reducible apply And.intro)) <;> skip; (iterate 2 (all_goals try (first | exact (c_impl_IsValidDatabase a) | exact fun _ => (c_impl_IsValidDatabase b))))) ?_
  refine W.cond rfl (fun hb0 => ?_) (fun hb0 => ?_)
  · have hxk : xdOK a b = false := or_no1 hb0 (by simp only [xdOK, ite_tt, ite_ff, gt_iff_lt, ge_iff_le, not_dlt, not_dle, bne_not, deq, decide_not, ne_eq, Bool.not_and, Bool.not_or, Bool.not_not, Bool.and_true, Bool.true_and, Bool.or_false, Bool.false_or, Int.toNat_natCast] <;> first | rfl | ac_rfl)
    refine W.seq ?_
    refine W.reg X [] [] [4, 5] [] rfl (by (repeat' (first | exact True.intro | apply And.intro))) ?_
    refine W.ret ?_
    exact Fin.ret rfl ⟨by rw [xorDB_neg hxk], by rw [hxk], ⟨⟩⟩
  · have hxk : xdOK a b = true := or_yes hb0 (by simp only [xdOK, ite_tt, ite_ff, gt_iff_lt, ge_iff_le, not_dlt, not_dle, bne_not, deq, decide_not, ne_eq, Bool.not_and, Bool.not_or, Bool.not_not, Bool.and_true, Bool.true_and, Bool.or_false, Bool.false_or, Int.toNat_natCast] <;> first | rfl | ac_rfl)
    have hxb := xdOK_b hxk
    have hxl := xdRows_len hxk
    refine W.skip ?_
    refine W.seq ?_
    refine W.seq ?_
    refine W.reg X [] [] [4, 6, 30, 31, 32] [] rfl ⟨⟩ ?_
    refine W.block ?_
    refine W.loopO (fun k => k ≤ b.rows.length) (fun k : Nat => [(32, .one (.a (.lit (.int .i64 k))))]) (fun k => [(10, .arr (.sl .u8) ((xdRows a b).take k ++ a.rows.drop k))]) (fun k => b.rows.length - k) 0 (fun k => rfl) (Nat.zero_le _) rfl ?_
    intro k hk
    have hle := part_len (xdRows a b) a.rows k hxl (by omega)
    refine W.seq ?_
    refine W.reg X [] [] [4, 6, 30, 31, 32, 33] [] rfl ⟨⟩ ?_
    refine W.seq ?_
    refine W.cond rfl (fun hb1 => ?_) (fun hb1 => ?_)
    · try simp only [nb, inr_t, inr_f, isEmpty_t] at hb1
      have hs := xdRows_impl hxk k hb1
      have hela : (a.rows.getD k (dfl (.sl .u8))).length ≤ 1048576 := by rw [okDB_el hxb.1 k (by omega)]; decide
      have helb : (b.rows.getD k (dfl (.sl .u8))).length ≤ 1048576 := by rw [okDB_el hxb.2.1 k (by omega)]; decide
      have hel : (((xdRows a b).take k ++ a.rows.drop k).getD k (dfl (.sl .u8))).length ≤ 1048576 := by rw [xd_part hxk k hb1]; exact hela
      refine W.skip ?_
      refine W.seq ?_
      refine W.block ?_
      refine W.seq ?_
      refine W.reg X [] [] [4, 6, 7, 8, 30, 31, 32] [] rfl (by (repeat' (first | exact True.intro | apply And.intro)) <;> first | (intros; omega)) ?_
      refine W.draw X [] [(46, ⟨true, [.a (.sl .u8 (xorb (((xdRows a b).take k ++ a.rows.drop k).getD k (dfl (.sl .u8))) (b.rows.getD k (dfl (.sl .u8)))))]⟩)] [4, 6, 30, 31, 32] [] 11 MO (by kernel_rfl) rfl (by (repeat' (first | with_reducible exact AllP.nil | with_reducible refine AllP.mk ?_ ?_ | with_reducible apply And.intro)) <;> skip; (iterate 1 (all_goals try (first | exact (c_impl_XorBytes (((xdRows a b).take k ++ a.rows.drop k).getD k (dfl (.sl .u8))) (b.rows.getD k (dfl (.sl .u8))) (by first | assumption | omega | (simp; done) | (simp; omega)) (by first | assumption | omega | (simp; done) | (simp; omega)))))); all_goals (first | (intros; omega))) ?_
      refine W.reg X [] [] [4, 6, 30, 31, 32] [] rfl ⟨⟩ ?_
      refine ⟨k + 1, by omega, by omega, ?_⟩
      rw [wadd _ k rfl (by omega), hs]
      try rfl
    · try simp only [nb, inr_t, inr_f, isEmpty_t] at hb1
      refine W.exit ?_
      refine W.seq ?_
      refine W.reg X [] [] [4, 5] [] rfl (by (repeat' (first | exact True.intro | apply And.intro))) ?_
      refine W.ret ?_
      exact Fin.ret rfl ⟨by rw [inplace_done _ _ _ hxl (by omega), xorDB_pos hxk], by rw [hxk], ⟨⟩⟩
theorem c_impl_WriteSeeds (x : Wld) (c : Int) (hsv : x.servers.length ≤ 1048576) : Sound ty Tryz.prog 89 [.agg (dec_Wld x), .a (.lit (.int .i64 c))] [.a (.sl .int (wseeds x c))] := by
  refine Sound.of X Tryz.call89 Tryz.func89 rfl rfl (by decide) Tryz.ntmps89 (by simp) ?_
  intro zb
  have hw : IntKind.i64.wrap ((x.servers.length : Int) - 1) = (x.servers.length : Int) - 1 := i64w (by omega)
  refine W.seq ?_
  refine W.reg X [] [] [1, 2] [] rfl ⟨⟩ ?_
  refine W.seq ?_
  refine W.reg X [] [] [1, 2, 5] [] rfl (by (repeat' (first | exact True.intro | apply And.intro)) <;> first | exact rfl) ?_
  refine W.seq ?_
  refine W.seq ?_
  refine W.reg X [] [] [1, 2, 5, 12, 13] [] rfl ⟨⟩ ?_
  refine W.block ?_
  refine W.loopO (fun k => k ≤ (x.servers.length - 1)) (fun k : Nat => [(13, .one (.a (.lit (.int .i64 k))))]) (fun k => [(7, .arr .int ((wseeds x c).take k))]) (fun k => (x.servers.length - 1) - k) 0 (fun k => rfl) (Nat.zero_le _) rfl ?_
  intro k hk
  have hle := take_le_len (wseeds x c) k
  have hrl := wseeds_len x c
  refine W.seq ?_
  refine W.reg X [] [] [1, 2, 5, 12, 13, 14] [] rfl ⟨⟩ ?_
  refine W.seq ?_
  refine W.cond rfl (fun hb0 => ?_) (fun hb0 => ?_)
  · try simp only [nb, inr_t, inr_f, isEmpty_t] at hb0
    rw [maxi0 _ hsv] at hb0
    have hs := wseeds_step x c k (by omega)
    refine W.skip ?_
    refine W.seq ?_
    refine W.block ?_
    refine W.seq ?_
    refine W.reg X [] [] [1, 2, 5, 6, 12, 13] [] rfl ⟨⟩ ?_
    refine W.reg X [(26, 7)] [(24, ⟨false, [.a (.lit (.int .i64 (kh x.seed [223, x.round, c, (k : Int)])))]⟩)] [1, 2, 5, 12, 13] [] rfl (by (repeat' (first | with_reducible exact AllP.nil | with_reducible refine AllP.mk ?_ ?_ | with_reducible apply And.intro)) <;> skip; (iterate 1 (all_goals try (first | exact (c_impl_KeyedHash x.seed [223, x.round, c, (k : Int)] (by first | assumption | omega | (simp; done) | (simp; omega)))))); all_goals (first | exact rfl | exact ⟨rfl, El_all _ (by decide)⟩ | (simp only [byt, maxLen, lens]; omega))) ?_
    refine W.reg X [] [] [1, 2, 5, 12, 13] [] rfl ⟨⟩ ?_
    refine ⟨k + 1, by omega, by omega, ?_⟩
    rw [wadd _ k rfl (by omega), hs]
    try rfl
  · try simp only [nb, inr_t, inr_f, isEmpty_t] at hb0
    rw [maxi0 _ hsv] at hb0
    refine W.exit ?_
    refine W.seq ?_
    refine W.reg X [] [] [4] [] rfl ⟨⟩ ?_
    refine W.ret ?_
    exact Fin.ret rfl ⟨by rw [List.take_of_length_le (by omega)], ⟨⟩⟩
theorem c_spec_NewDatabase (rows : Int) : Sound ty Tryz.prog 124 [.a (.lit (.int .i64 rows))] [.agg (dec_DB (newDB rows))] := by
  refine Sound.of X Tryz.call124 Tryz.func124 rfl rfl (by decide) Tryz.ntmps124 (by simp) ?_
  intro zb
  refine W.seq ?_
  refine W.reg X [] [] [0, 2] [] rfl ⟨⟩ ?_
  refine W.seq ?_
  refine W.reg X [] [] [0, 2, 3] [] rfl ⟨⟩ ?_
  refine W.nilOwn 3 0 60 (.sl .u8) rfl ?_
  refine W.seq ?_
  refine W.seq ?_
  refine W.reg X [] [] [0, 2, 3, 4] [] rfl ⟨⟩ ?_
  refine W.block ?_
  refine W.loopO (fun k => k ≤ (newDB rows).rows.length) (fun k : Nat => [(4, .one (.a (.lit (.int .i64 k))))]) (fun k => [(60, .arr (.sl .u8) ((newDB rows).rows.take k))]) (fun k => (newDB rows).rows.length - k) 0 (fun k => rfl) (Nat.zero_le _) rfl ?_
  intro k hk
  have hle := take_le_len (newDB rows).rows k
  have hnl := newDB_len rows
  refine W.seq ?_
  refine W.seq ?_
  refine W.reg X [] [] [0, 2, 3, 4, 12] [] rfl ⟨⟩ ?_
  refine W.cond rfl (fun hb0 => ?_) (fun hb0 => ?_)
  · try simp only [nb, inr_t, inr_f, isEmpty_t] at hb0
    have hin := newDB_in rows k (by omega) (by omega)
    have hs := newDB_step rows k (by omega) (by omega)
    refine W.skip ?_
    refine W.seq ?_
    refine W.block ?_
    refine W.draw X [(19, 60)] [(500018, ⟨true, []⟩)] [0, 2, 3, 4] [] 4 MO (by kernel_rfl) rfl (by (repeat' (first | exact True.intro | apply And.intro)) <;> first | (intros; omega) | exact rfl | (simp only [byt, maxLen, lens]; omega)) ?_
    refine W.reg X [] [] [0, 2, 3, 4] [] rfl ⟨⟩ ?_
    refine ⟨k + 1, by omega, by omega, ?_⟩
    rw [wadd _ k rfl (by omega), hs]
    try rfl
  · try simp only [nb, inr_t, inr_f, isEmpty_t] at hb0
    refine W.exit ?_
    refine W.seq ?_
    refine W.reg X [] [] [2] [] rfl (by (repeat' (first | exact True.intro | apply And.intro))) ?_
    refine W.ret ?_
    exact Fin.ret rfl ⟨by rw [newDB_end _ _ (by omega)], ⟨⟩⟩
theorem c_spec_ReplaceRow (d : DB) (i : Int) (c : List UInt8) (hs0 : lsz List.length d.rows ≤ 1048576) (hc : c.length ≤ 1048576) : Sound ty Tryz.prog 123 [.agg (dec_DB d), .a (.lit (.int .i64 i)), .a (.sl .u8 c)] [.agg (dec_DB (repDB d i c)), .a (.lit (.bool (repOK d i c)))] := by
  refine Sound.of X Tryz.call123 Tryz.func123 rfl rfl (by decide) Tryz.ntmps123 (by simp) ?_
  intro zb
  have hll : d.rows.length ≤ 1048576 := lsz_len hs0
  refine W.seq ?_
  refine W.reg X [] [] [1, 2, 3, 6] [] rfl ⟨⟩ ?_
  refine W.seq ?_
  refine W.reg X [] [(10, ⟨true, [.agg (dec_DB d)]⟩)] [1, 2, 3, 6, 8] [] rfl (by (repeat' (first | with_reducible exact AllP.nil | with_reducible refine AllP.mk ?_ ?_ | with_reducible apply And.intro)) <;> skip; (iterate 1 (all_goals try (first | exact (c_spec_l8Copy d (by first | assumption | omega | (simp; done) | (simp; omega))))))) ?_
  refine W.seq ?_
  refine W.seq ?_
  refine W.reg X [] [(16, ⟨false, [.a (.lit (.bool (inr i 0 (IntKind.i64.wrap ((d.rows.length : Int) - 1)))))]⟩)] [1, 2, 6, 8, 22] [] rfl (by (repeat' (first | with_reducible exact AllP.nil | with_reducible refine AllP.mk ?_ ?_ | with_reducible apply And.intro)) <;> skip; (iterate 1 (all_goals try (first | exact (c_spec_l1In i 0 (IntKind.i64.wrap ((d.rows.length : Int) - 1))))))) ?_
  refine W.cond rfl (fun hb0 => ?_) (fun hb0 => ?_)
  · have hrk : repOK d i c = false := or_no1 hb0 (by simp only [repOK, ite_tt, ite_ff, gt_iff_lt, ge_iff_le, not_dlt, not_dle, bne_not, deq, decide_not, ne_eq, Bool.not_and, Bool.not_or, Bool.not_not, Bool.and_true, Bool.true_and, Bool.or_false, Bool.false_or, Int.toNat_natCast] <;> first | rfl | ac_rfl)
    refine W.seq ?_
    refine W.reg X [] [] [6, 7] [] rfl (by (repeat' (first | exact True.intro | apply And.intro))) ?_
    refine W.ret ?_
    exact Fin.ret rfl ⟨by rw [repDB_neg hrk], by rw [hrk], ⟨⟩⟩
  · have hrk : repOK d i c = true := or_yes hb0 (by simp only [repOK, ite_tt, ite_ff, gt_iff_lt, ge_iff_le, not_dlt, not_dle, bne_not, deq, decide_not, ne_eq, Bool.not_and, Bool.not_or, Bool.not_not, Bool.and_true, Bool.true_and, Bool.or_false, Bool.false_or, Int.toNat_natCast] <;> first | rfl | ac_rfl)
    have hrb := repOK_b hll hrk
    refine W.skip ?_
    refine W.seq ?_
    refine W.drawK X [(29, 27)] [] [6, 8] [] 95 (.ph 31 (.br 31 5 (.ph 64 (.br 64 7 (.last 0) (.nil))) (.br 27 5 (.ph 68 (.br 68 7 (.last 0) (.nil))) (.br 29 5 (.ph 66 (.br 66 7 (.last 0) (.nil))) (.br 25 5 (.ph 70 (.br 70 7 (.last 0) (.nil))) (.br 28 5 (.ph 67 (.br 67 7 (.last 0) (.nil))) (.br 24 5 (.ph 71 (.br 71 7 (.last 0) (.nil))) (.nil)))))))) 5 MO (by kernel_rfl) rfl (by kernel_rfl) (by (repeat' (first | exact True.intro | apply And.intro)) <;> first | (intros; omega) | exact rfl | (simp only [byt, maxLen, lens]; omega)) ?_
    refine W.seq ?_
    refine W.reg X [] [] [6, 7] [] rfl (by (repeat' (first | exact True.intro | apply And.intro))) ?_
    refine W.ret ?_
    exact Fin.ret rfl ⟨by rw [repDB_pos hrk]; rfl, by rw [hrk], ⟨⟩⟩
theorem c_spec_XorDatabases (a b : DB) (hs0 : lsz List.length a.rows ≤ 1048576) (hs1 : lsz List.length b.rows ≤ 1048576) : Sound ty Tryz.prog 126 [.agg (dec_DB a), .agg (dec_DB b)] [.agg (dec_DB (xorDB a b)), .a (.lit (.bool (xdOK a b)))] := by
  refine Sound.of X Tryz.call126 Tryz.func126 rfl rfl (by decide) Tryz.ntmps126 (by simp) ?_
  intro zb
  have hla : a.rows.length ≤ 1048576 := lsz_len hs0
  have hlb : b.rows.length ≤ 1048576 := lsz_len hs1
  refine W.seq ?_
  refine W.reg X [] [] [2, 3, 4] [] rfl ⟨⟩ ?_
  refine W.seq ?_
  refine W.seq ?_
  refine W.reg X [] [(9, ⟨false, [.a (.lit (.bool (okDB a)))]⟩), (13, ⟨false, [.a (.lit (.bool (okDB b)))]⟩)] [2, 3, 4, 24] [] rfl (by (repeat' (first | with_reducible exact AllP.nil | with_reducible refine AllP.mk ?_ ?_ | with_reducible apply And.intro)) <;> skip; (iterate 2 (all_goals try (first | exact (c_spec_IsValidDatabase a) | exact fun _ => (c_spec_IsValidDatabase b))))) ?_
  refine W.cond rfl (fun hb0 => ?_) (fun hb0 => ?_)
  · have hxk : xdOK a b = false := or_no1 hb0 (by simp only [xdOK, ite_tt, ite_ff, gt_iff_lt, ge_iff_le, not_dlt, not_dle, bne_not, deq, decide_not, ne_eq, Bool.not_and, Bool.not_or, Bool.not_not, Bool.and_true, Bool.true_and, Bool.or_false, Bool.false_or, Int.toNat_natCast] <;> first | rfl | ac_rfl)
    refine W.seq ?_
    refine W.reg X [] [(26, ⟨true, [.agg (dec_DB a)]⟩)] [4, 5] [] rfl (by (repeat' (first | with_reducible exact AllP.nil | with_reducible refine AllP.mk ?_ ?_ | with_reducible apply And.intro)) <;> skip; (iterate 1 (all_goals try (first | exact (c_spec_l8Copy a (by first | assumption | omega | (simp; done) | (simp; omega))))))) ?_
    refine W.ret ?_
    exact Fin.ret rfl ⟨by rw [xorDB_neg hxk], by rw [hxk], ⟨⟩⟩
  · have hxk : xdOK a b = true := or_yes hb0 (by simp only [xdOK, ite_tt, ite_ff, gt_iff_lt, ge_iff_le, not_dlt, not_dle, bne_not, deq, decide_not, ne_eq, Bool.not_and, Bool.not_or, Bool.not_not, Bool.and_true, Bool.true_and, Bool.or_false, Bool.false_or, Int.toNat_natCast] <;> first | rfl | ac_rfl)
    have hxb := xdOK_b hxk
    have hxl := xdRows_len hxk
    refine W.skip ?_
    refine W.seq ?_
    refine W.reg X [] [] [2, 3, 4, 6] [] rfl ⟨⟩ ?_
    refine W.nilOwn 6 0 60 (.sl .u8) rfl ?_
    refine W.seq ?_
    refine W.seq ?_
    refine W.reg X [] [] [2, 3, 4, 6, 7] [] rfl ⟨⟩ ?_
    refine W.block ?_
    refine W.loopO (fun k => k ≤ a.rows.length) (fun k : Nat => [(7, .one (.a (.lit (.int .i64 k))))]) (fun k => [(60, .arr (.sl .u8) ((xdRows a b).take k))]) (fun k => a.rows.length - k) 0 (fun k => rfl) (Nat.zero_le _) rfl ?_
    intro k hk
    have hle := take_le_len (xdRows a b) k
    refine W.seq ?_
    refine W.seq ?_
    refine W.reg X [] [] [2, 3, 4, 6, 7, 32] [] rfl ⟨⟩ ?_
    refine W.cond rfl (fun hb1 => ?_) (fun hb1 => ?_)
    · try simp only [nb, inr_t, inr_f, isEmpty_t] at hb1
      have hs := xdRows_spec hxk k hb1
      have hela : (a.rows.getD k (dfl (.sl .u8))).length ≤ 1048576 := by rw [okDB_el hxb.1 k (by omega)]; decide
      have helb : (b.rows.getD k (dfl (.sl .u8))).length ≤ 1048576 := by rw [okDB_el hxb.2.1 k (by omega)]; decide
      refine W.skip ?_
      refine W.seq ?_
      refine W.block ?_
      refine W.draw X [(49, 60)] [(47, ⟨true, [.a (.sl .u8 (xorb (a.rows.getD k (dfl (.sl .u8))) (b.rows.getD k (dfl (.sl .u8)))))]⟩), (500048, ⟨true, []⟩)] [2, 3, 4, 6, 7] [] 14 MO (by kernel_rfl) rfl (by (repeat' (first | with_reducible exact AllP.nil | with_reducible refine AllP.mk ?_ ?_ | with_reducible apply And.intro)) <;> skip; (iterate 1 (all_goals try (first | exact (c_spec_XorBytes (a.rows.getD k (dfl (.sl .u8))) (b.rows.getD k (dfl (.sl .u8))) (by first | assumption | omega | (simp; done) | (simp; omega)) (by first | assumption | omega | (simp; done) | (simp; omega)))))); all_goals (first | (intros; omega) | exact rfl | exact ⟨rfl, El_all _ (by decide)⟩ | (simp only [byt, maxLen, lens]; omega))) ?_
      refine W.reg X [] [] [2, 3, 4, 6, 7] [] rfl ⟨⟩ ?_
      refine ⟨k + 1, by omega, by omega, ?_⟩
      rw [wadd _ k rfl (by omega), hs]
      try rfl
    · try simp only [nb, inr_t, inr_f, isEmpty_t] at hb1
      refine W.exit ?_
      refine W.seq ?_
      refine W.reg X [] [] [4, 5] [] rfl (by (repeat' (first | exact True.intro | apply And.intro))) ?_
      refine W.ret ?_
      exact Fin.ret rfl ⟨by rw [List.take_of_length_le (by omega), xorDB_pos hxk], by rw [hxk], ⟨⟩⟩
theorem c_spec_WriteSeeds (x : Wld) (c : Int) (hsv : x.servers.length ≤ 1048576) : Sound ty Tryz.prog 68 [.agg (dec_Wld x), .a (.lit (.int .i64 c))] [.a (.sl .int (wseeds x c))] := by
  refine Sound.of X Tryz.call68 Tryz.func68 rfl rfl (by decide) Tryz.ntmps68 (by simp) ?_
  intro zb
  have hw : IntKind.i64.wrap ((x.servers.length : Int) - 1) = (x.servers.length : Int) - 1 := i64w (by omega)
  refine W.seq ?_
  refine W.reg X [] [] [1, 2] [] rfl ⟨⟩ ?_
  refine W.seq ?_
  refine W.reg X [] [] [1, 2, 5] [] rfl (by (repeat' (first | exact True.intro | apply And.intro)) <;> first | exact rfl) ?_
  refine W.seq ?_
  refine W.seq ?_
  refine W.reg X [] [] [1, 2, 5, 6] [] rfl ⟨⟩ ?_
  refine W.block ?_
  refine W.loopO (fun k => k ≤ (x.servers.length - 1)) (fun k : Nat => [(6, .one (.a (.lit (.int .i64 k))))]) (fun k => [(7, .arr .int ((wseeds x c).take k))]) (fun k => (x.servers.length - 1) - k) 0 (fun k => rfl) (Nat.zero_le _) rfl ?_
  intro k hk
  have hle := take_le_len (wseeds x c) k
  have hrl := wseeds_len x c
  refine W.seq ?_
  refine W.seq ?_
  refine W.reg X [] [] [1, 2, 5, 6, 13] [] rfl ⟨⟩ ?_
  refine W.cond rfl (fun hb0 => ?_) (fun hb0 => ?_)
  · try simp only [nb, inr_t, inr_f, isEmpty_t] at hb0
    rw [hw] at hb0
    have hs := wseeds_step x c k (by omega)
    refine W.skip ?_
    refine W.seq ?_
    refine W.block ?_
    refine W.reg X [(26, 7)] [(24, ⟨false, [.a (.lit (.int .i64 (kh x.seed [223, x.round, c, (k : Int)])))]⟩)] [1, 2, 5, 6] [] rfl (by (repeat' (first | with_reducible exact AllP.nil | with_reducible refine AllP.mk ?_ ?_ | with_reducible apply And.intro)) <;> skip; (iterate 1 (all_goals try (first | exact (c_spec_KeyedHash x.seed [223, x.round, c, (k : Int)] (by first | assumption | omega | (simp; done) | (simp; omega)))))); all_goals (first | exact rfl | exact ⟨rfl, El_all _ (by decide)⟩ | (simp only [byt, maxLen, lens]; omega))) ?_
    refine W.reg X [] [] [1, 2, 5, 6] [] rfl ⟨⟩ ?_
    refine ⟨k + 1, by omega, by omega, ?_⟩
    rw [wadd _ k rfl (by omega), hs]
    try rfl
  · try simp only [nb, inr_t, inr_f, isEmpty_t] at hb0
    rw [hw] at hb0
    refine W.exit ?_
    refine W.seq ?_
    refine W.reg X [] [] [4] [] rfl ⟨⟩ ?_
    refine W.ret ?_
    exact Fin.ret rfl ⟨by rw [List.take_of_length_le (by omega)], ⟨⟩⟩
theorem c_impl_unitWrite (rows i : Int) (c : List UInt8) (hc : c.length ≤ 1048576) : Sound ty Tryz.prog 142 [.a (.lit (.int .i64 rows)), .a (.lit (.int .i64 i)), .a (.sl .u8 c)] [.agg (dec_DB (unW rows i c)), .a (.lit (.bool (unOK rows i c)))] := by
  refine Sound.of X Tryz.call142 Tryz.func142 rfl rfl (by decide) Tryz.ntmps142 (by simp) ?_
  intro zb
  have hz := newDB_lsz rows
  refine W.seq ?_
  refine W.reg X [] [] [0, 1, 2, 6] [] rfl ⟨⟩ ?_
  refine W.seq ?_
  refine W.seq ?_
  refine W.reg X [] [(9, ⟨false, [.a (.lit (.bool (inr rows 1 64)))]⟩)] [0, 1, 2, 6, 10] [] rfl (by (repeat' (first | with_reducible exact AllP.nil | with_reducible refine AllP.mk ?_ ?_ | with_reducible apply And.intro)) <;> skip; (iterate 1 (all_goals try (first | exact (c_impl_InRange rows 1 64))))) ?_
  refine W.cond rfl (fun hb0 => ?_) (fun hb0 => ?_)
  · have hk : inr rows 1 64 = false := by simpa using hb0
    refine W.seq ?_
    refine W.reg X [] [] [6, 7] [] rfl (by (repeat' (first | exact True.intro | apply And.intro))) ?_
    refine W.ret ?_
    exact Fin.ret rfl ⟨by rw [unW, hk]; rfl, by rw [unOK, hk]; rfl, ⟨⟩⟩
  · have hk : inr rows 1 64 = true := by simpa using hb0
    refine W.skip ?_
    refine W.seq ?_
    refine W.reg X [] [(13, ⟨true, [.agg (dec_DB (newDB rows))]⟩), (16, ⟨true, [.agg (dec_DB (repDB (newDB rows) i c)), .a (.lit (.bool (repOK (newDB rows) i c)))]⟩)] [6, 7] [] rfl (by (repeat' (first | with_reducible exact AllP.nil | with_reducible refine AllP.mk ?_ ?_ | with_reducible apply And.intro)) <;> skip; (iterate 2 (all_goals try (first | exact (c_impl_NewDatabase rows) | exact (c_impl_ReplaceRow (newDB rows) i c (by first | assumption | omega | (simp; done) | (simp; omega)) (by first | assumption | omega | (simp; done) | (simp; omega))))))) ?_
    refine W.ret ?_
    exact Fin.ret rfl ⟨by rw [unW, if_pos hk], by rw [unOK, hk]; rfl, ⟨⟩⟩
end Go.Proofs.YthjedjndamejmaaGreat.G
namespace Go.Proofs.YthjedjndamejmaaGreat.G
set_option linter.all false
open Go.RowKit L D
set_option maxRecDepth 100000
theorem c_impl_MakeWrite (rows i : Int) (c : List UInt8) (sd : List Int) (hc : c.length ≤ 1048576) (hsl : sd.length ≤ 1048576) : Sound ty Tryz.prog 88 [.a (.lit (.int .i64 rows)), .a (.lit (.int .i64 i)), .a (.sl .u8 c), .a (.sl .int sd)] [.a (.sl .DB (makeW rows i c sd))] := by
  refine Sound.of X Tryz.call88 Tryz.func88 rfl rfl (by decide) Tryz.ntmps88 (by simp) ?_
  intro zb
  refine W.seq ?_
  refine W.reg X [] [] [0, 1, 2, 3] [] rfl ⟨⟩ ?_
  refine W.seq ?_
  refine W.reg X [] [(20, ⟨true, [.agg (dec_DB (unW rows i c)), .a (.lit (.bool (unOK rows i c)))]⟩)] [0, 3, 9, 10] [] rfl (by (repeat' (first | with_reducible exact AllP.nil | with_reducible refine AllP.mk ?_ ?_ | with_reducible apply And.intro)) <;> skip; (iterate 1 (all_goals try (first | exact (c_impl_unitWrite rows i c (by first | assumption | omega | (simp; done) | (simp; omega))))))) ?_
  refine W.seq ?_
  refine W.seq ?_
  refine W.reg X [] [(29, ⟨false, [.a (.lit (.bool (srvCnt (IntKind.i64.wrap ((sd.length : Int) + 1)))))]⟩)] [0, 3, 9, 31] [] rfl (by (repeat' (first | with_reducible exact AllP.nil | with_reducible refine AllP.mk ?_ ?_ | with_reducible apply And.intro)) <;> skip; (iterate 1 (all_goals try (first | exact fun _ => (c_impl_isServerCount (IntKind.i64.wrap ((sd.length : Int) + 1))))))) ?_
  refine W.cond rfl (fun hb0 => ?_) (fun hb0 => ?_)
  · have hmk : mwOK rows i c sd = false := or_no1 hb0 (by simp only [mwOK, ite_tt, ite_ff, gt_iff_lt, ge_iff_le, not_dlt, not_dle, bne_not, deq, decide_not, ne_eq, Bool.not_and, Bool.not_or, Bool.not_not, Bool.and_true, Bool.true_and, Bool.or_false, Bool.false_or, Int.toNat_natCast] <;> first | rfl | ac_rfl)
    refine W.seq ?_
    refine W.reg X [] [] [8] [] rfl ⟨⟩ ?_
    refine W.ret ?_
    exact Fin.ret rfl ⟨by rw [makeW, if_neg (by rw [hmk]; decide)], ⟨⟩⟩
  · have hmk : mwOK rows i c sd = true := or_yes hb0 (by simp only [mwOK, ite_tt, ite_ff, gt_iff_lt, ge_iff_le, not_dlt, not_dle, bne_not, deq, decide_not, ne_eq, Bool.not_and, Bool.not_or, Bool.not_not, Bool.and_true, Bool.true_and, Bool.or_false, Bool.false_or, Int.toNat_natCast] <;> first | rfl | ac_rfl)
    have hml := mwOK_len hmk hsl
    have hun := unW_ok hml.1
    refine W.skip ?_
    refine W.seq ?_
    refine W.reg X [] [] [0, 3, 9, 11] [] rfl (by (repeat' (first | exact True.intro | apply And.intro)) <;> first | exact rfl) ?_
    refine W.seq ?_
    refine W.seq ?_
    refine W.reg X [] [] [0, 9, 11, 33, 34, 35] [] rfl ⟨⟩ ?_
    refine W.block ?_
    refine W.loopO (fun k => k ≤ sd.length) (fun k : Nat => [(35, .one (.a (.lit (.int .i64 k))))]) (fun k => [(32, .arr .DB ((sd.take k).map fun s => mdb s rows)), (20, .arr (.sl .u8) (lastW rows i c (sd.take k)).rows)]) (fun k => sd.length - k) 0 (fun k => rfl) (Nat.zero_le _) rfl ?_
    intro k hk
    have hle := take_le_len sd k
    have hlo := lastW_ok hml.1 (sd.take k)
    have hlz := okDB_lsz hlo
    refine W.seq ?_
    refine W.reg X [] [] [0, 9, 11, 33, 34, 35, 36] [] rfl ⟨⟩ ?_
    refine W.seq ?_
    refine W.cond rfl (fun hb1 => ?_) (fun hb1 => ?_)
    · try simp only [nb, inr_t, inr_f, isEmpty_t] at hb1
      have hs := map_snoc (fun s => mdb s rows) sd k (dfl .int) hb1
      have hs2 := lastW_step rows i c sd k hb1
      have hmo := mdb_ok (sd.getD k (dfl .int)) rows hun.2.2
      have hmz := okDB_lsz hmo
      refine W.skip ?_
      refine W.seq ?_
      refine W.block ?_
      refine W.seq ?_
      refine W.reg X [] [] [0, 9, 11, 13, 33, 34, 35] [] rfl (by (repeat' (first | exact True.intro | apply And.intro)) <;> first | (intros; omega)) ?_
      refine W.seq ?_
      refine W.reg X [] [] [0, 9, 11, 13, 14, 33, 34, 35] [] rfl ⟨⟩ ?_
      refine W.nilOwn 14 0 60 (.sl .u8) rfl ?_
      refine W.seq ?_
      refine W.seq ?_
      refine W.reg X [] [] [0, 9, 11, 13, 14, 33, 34, 35, 40, 41] [] rfl ⟨⟩ ?_
      refine W.block ?_
      refine W.loopO (fun k1 => k1 ≤ rows.toNat) (fun k1 : Nat => [(41, .one (.a (.lit (.int .i64 k1))))]) (fun k1 => [(60, .arr (.sl .u8) ((mdbRows (sd.getD k (dfl .int)) rows).take k1))]) (fun k1 => rows.toNat - k1) 0 (fun k1 => rfl) (Nat.zero_le _) rfl ?_
      intro k1 hk1
      have hle1 := take_le_len (mdbRows (sd.getD k (dfl .int)) rows) k1
      refine W.seq ?_
      refine W.reg X [] [] [0, 9, 11, 13, 14, 33, 34, 35, 40, 41, 42] [] rfl ⟨⟩ ?_
      refine W.seq ?_
      refine W.cond rfl (fun hb2 => ?_) (fun hb2 => ?_)
      · try simp only [nb, inr_t, inr_f, isEmpty_t] at hb2
        have hs1 := mdbRows_step (sd.getD k (dfl .int)) rows k1 (by omega)
        refine W.skip ?_
        refine W.seq ?_
        refine W.block ?_
        refine W.seq ?_
        refine W.reg X [] [] [0, 9, 11, 13, 14, 15, 33, 34, 35, 40, 41] [] rfl ⟨⟩ ?_
        refine W.draw X [(52, 60)] [(50, ⟨true, [.a (.sl .u8 (stream (IntKind.i64.wrap ((sd.getD k (dfl .int)) + IntKind.i64.wrap (1000 * (k1 : Int)))) (24 : Int).toNat))]⟩), (500051, ⟨true, []⟩)] [0, 9, 11, 13, 14, 33, 34, 35, 40, 41] [] 8 MO (by kernel_rfl) rfl (by (repeat' (first | with_reducible exact AllP.nil | with_reducible refine AllP.mk ?_ ?_ | with_reducible apply And.intro)) <;> skip; (iterate 1 (all_goals try (first | exact (c_impl_StreamBytes (IntKind.i64.wrap ((sd.getD k (dfl .int)) + IntKind.i64.wrap (1000 * (k1 : Int)))) 24 (by first | assumption | omega | (simp; done) | (simp; omega)) (by first | assumption | omega | (simp; done) | (simp; omega)))))); all_goals (first | exact rfl | exact ⟨rfl, El_all _ (by decide)⟩ | (simp only [byt, maxLen, lens]; omega))) ?_
        refine W.reg X [] [] [0, 9, 11, 13, 14, 33, 34, 35, 40, 41] [] rfl ⟨⟩ ?_
        refine ⟨k1 + 1, by omega, by omega, ?_⟩
        rw [wadd _ k1 rfl (by omega), hs1]
        try rfl
      · try simp only [nb, inr_t, inr_f, isEmpty_t] at hb2
        rw [List.take_of_length_le (show (mdbRows (sd.getD k (dfl .int)) rows).length ≤ k1 by rw [mdbRows_len]; omega)]
        refine W.exit ?_
        refine W.seq ?_
        refine W.regK X [(58, 32)] [] [0, 9, 11, 14, 33, 34, 35] 2 32 rfl (by (repeat' (first | exact True.intro | apply And.intro)) <;> first | exact rfl | (simp only [byt, maxLen, lens]; omega)) ?_
        refine W.reg X [] [(62, ⟨true, [.agg (dec_DB (xorDB (lastW rows i c (sd.take k)) (mdb (sd.getD k (dfl .int)) rows))), .a (.lit (.bool (xdOK (lastW rows i c (sd.take k)) (mdb (sd.getD k (dfl .int)) rows))))]⟩)] [0, 9, 11, 33, 34, 35] [] rfl (by (repeat' (first | with_reducible exact AllP.nil | with_reducible refine AllP.mk ?_ ?_ | with_reducible apply And.intro)) <;> skip; (iterate 1 (all_goals try (first | exact (c_impl_XorDatabases (lastW rows i c (sd.take k)) (mdb (sd.getD k (dfl .int)) rows) (by first | assumption | omega | (simp; done) | (simp; omega)) (by first | assumption | omega | (simp; done) | (simp; omega))))))) ?_
        refine W.renameB 9 0 20 rfl ?_
        refine W.reg X [] [] [0, 9, 11, 33, 34, 35] [] rfl ⟨⟩ ?_
        refine ⟨k + 1, by omega, by omega, ?_⟩
        rw [wadd _ k rfl (by omega), hs, hs2]
        try rfl
    · try simp only [nb, inr_t, inr_f, isEmpty_t] at hb1
      refine W.exit ?_
      refine W.seq ?_
      refine W.reg X [(69, 32)] [] [8] [] rfl (by (repeat' (first | exact True.intro | apply And.intro)) <;> first | exact rfl | (simp only [byt, maxLen, lens]; omega)) ?_
      refine W.ret ?_
      exact Fin.ret rfl ⟨by rw [List.take_of_length_le hb1, makeW, if_pos hmk], ⟨⟩⟩
theorem c_spec_l11Row (rows i : Int) (c : List UInt8) : Sound ty Tryz.prog 122 [.a (.lit (.int .i64 rows)), .a (.lit (.int .i64 i)), .a (.sl .u8 c)] [.a (.lit (.bool (unOK rows i c)))] := by
  refine Sound.of X Tryz.call122 Tryz.func122 rfl rfl (by decide) Tryz.ntmps122 (by simp) ?_
  intro zb
  refine W.seq ?_
  refine W.reg X [] [] [0, 1, 2] [] rfl ⟨⟩ ?_
  refine W.seq ?_
  refine W.reg X [] [(8, ⟨false, [.a (.lit (.bool (inr rows 1 64)))]⟩), (13, ⟨false, [.a (.lit (.bool (inr i 0 (IntKind.i64.wrap (rows - 1)))))]⟩)] [6] [] rfl (by (repeat' (first | with_reducible exact AllP.nil | with_reducible refine AllP.mk ?_ ?_ | with_reducible apply And.intro)) <;> skip; (iterate 2 (all_goals try (first | exact (c_spec_l1In rows 1 64) | exact fun _ => (c_spec_l1In i 0 (IntKind.i64.wrap (rows - 1))))))) ?_
  refine W.ret ?_
  exact Fin.ret rfl ⟨by rw [unOK_row]; exact (congrArg Value.bool (by simp only [ite_tt, ite_ff, gt_iff_lt, ge_iff_le, not_dlt, not_dle, bne_not, deq, decide_not, ne_eq, Bool.not_and, Bool.not_or, Bool.not_not, Bool.and_true, Bool.true_and, Bool.or_false, Bool.false_or, Int.toNat_natCast] <;> first | rfl | ac_rfl)), ⟨⟩⟩
theorem c_spec_MakeWrite (rows i : Int) (c : List UInt8) (sd : List Int) (hc : c.length ≤ 1048576) (hsl : sd.length ≤ 1048576) : Sound ty Tryz.prog 67 [.a (.lit (.int .i64 rows)), .a (.lit (.int .i64 i)), .a (.sl .u8 c), .a (.sl .int sd)] [.a (.sl .DB (makeW rows i c sd))] := by
  refine Sound.of X Tryz.call67 Tryz.func67 rfl rfl (by decide) Tryz.ntmps67 (by simp) ?_
  intro zb
  have hz := newDB_lsz rows
  refine W.seq ?_
  refine W.reg X [] [] [0, 1, 2, 3] [] rfl ⟨⟩ ?_
  refine W.seq ?_
  refine W.reg X [] [] [0, 1, 2, 3, 9] [] rfl (by (repeat' (first | exact True.intro | apply And.intro)) <;> first | exact rfl) ?_
  refine W.seq ?_
  refine W.seq ?_
  refine W.reg X [] [(19, ⟨false, [.a (.lit (.bool (unOK rows i c)))]⟩), (25, ⟨false, [.a (.lit (.bool (srvCnt (IntKind.i64.wrap ((sd.length : Int) + 1)))))]⟩)] [0, 1, 2, 3, 9, 27] [] rfl (by (repeat' (first | with_reducible exact AllP.nil | with_reducible refine AllP.mk ?_ ?_ | with_reducible apply And.intro)) <;> skip; (iterate 2 (all_goals try (first | exact (c_spec_l11Row rows i c) | exact fun _ => (c_spec_l7Count (IntKind.i64.wrap ((sd.length : Int) + 1))))))) ?_
  refine W.cond rfl (fun hb0 => ?_) (fun hb0 => ?_)
  · have hmk : mwOK rows i c sd = false := or_no1 hb0 (by simp only [mwOK, ite_tt, ite_ff, gt_iff_lt, ge_iff_le, not_dlt, not_dle, bne_not, deq, decide_not, ne_eq, Bool.not_and, Bool.not_or, Bool.not_not, Bool.and_true, Bool.true_and, Bool.or_false, Bool.false_or, Int.toNat_natCast] <;> first | rfl | ac_rfl)
    refine W.seq ?_
    refine W.reg X [] [] [8] [] rfl ⟨⟩ ?_
    refine W.ret ?_
    exact Fin.ret rfl ⟨by rw [makeW, if_neg (by rw [hmk]; decide)], ⟨⟩⟩
  · have hmk : mwOK rows i c sd = true := or_yes hb0 (by simp only [mwOK, ite_tt, ite_ff, gt_iff_lt, ge_iff_le, not_dlt, not_dle, bne_not, deq, decide_not, ne_eq, Bool.not_and, Bool.not_or, Bool.not_not, Bool.and_true, Bool.true_and, Bool.or_false, Bool.false_or, Int.toNat_natCast] <;> first | rfl | ac_rfl)
    have hml := mwOK_len hmk hsl
    have hun := unW_ok hml.1
    refine W.skip ?_
    refine W.seq ?_
    refine W.reg X [] [(31, ⟨true, [.agg (dec_DB (newDB rows))]⟩), (34, ⟨true, [.agg (dec_DB (repDB (newDB rows) i c)), .a (.lit (.bool (repOK (newDB rows) i c)))]⟩)] [0, 3, 9, 10] [] rfl (by (repeat' (first | with_reducible exact AllP.nil | with_reducible refine AllP.mk ?_ ?_ | with_reducible apply And.intro)) <;> skip; (iterate 2 (all_goals try (first | exact (c_spec_NewDatabase rows) | exact (c_spec_ReplaceRow (newDB rows) i c (by first | assumption | omega | (simp; done) | (simp; omega)) (by first | assumption | omega | (simp; done) | (simp; omega))))))) ?_
    rw [unW_row hmk]
    refine W.seq ?_
    refine W.seq ?_
    refine W.reg X [] [] [0, 3, 9, 10, 12] [] rfl ⟨⟩ ?_
    refine W.block ?_
    refine W.loopO (fun k => k ≤ sd.length) (fun k : Nat => [(12, .one (.a (.lit (.int .i64 k))))]) (fun k => [(15, .arr .DB ((sd.take k).map fun s => mdb s rows)), (34, .arr (.sl .u8) (lastW rows i c (sd.take k)).rows)]) (fun k => sd.length - k) 0 (fun k => rfl) (Nat.zero_le _) rfl ?_
    intro k hk
    have hle := take_le_len sd k
    have hlo := lastW_ok hml.1 (sd.take k)
    have hlz := okDB_lsz hlo
    refine W.seq ?_
    refine W.seq ?_
    refine W.reg X [] [] [0, 3, 9, 10, 12, 40] [] rfl ⟨⟩ ?_
    refine W.cond rfl (fun hb1 => ?_) (fun hb1 => ?_)
    · try simp only [nb, inr_t, inr_f, isEmpty_t] at hb1
      have hs := map_snoc (fun s => mdb s rows) sd k (dfl .int) hb1
      have hs2 := lastW_step rows i c sd k hb1
      have hmo := mdb_ok (sd.getD k (dfl .int)) rows hun.2.2
      have hmz := okDB_lsz hmo
      refine W.skip ?_
      refine W.seq ?_
      refine W.block ?_
      refine W.seq ?_
      refine W.reg X [] [] [0, 3, 9, 10, 12, 13] [] rfl ⟨⟩ ?_
      refine W.nilOwn 13 0 60 (.sl .u8) rfl ?_
      refine W.seq ?_
      refine W.seq ?_
      refine W.reg X [] [] [0, 3, 9, 10, 12, 13, 14] [] rfl ⟨⟩ ?_
      refine W.block ?_
      refine W.loopO (fun k1 => k1 ≤ rows.toNat) (fun k1 : Nat => [(14, .one (.a (.lit (.int .i64 k1))))]) (fun k1 => [(60, .arr (.sl .u8) ((mdbRows (sd.getD k (dfl .int)) rows).take k1))]) (fun k1 => rows.toNat - k1) 0 (fun k1 => rfl) (Nat.zero_le _) rfl ?_
      intro k1 hk1
      have hle1 := take_le_len (mdbRows (sd.getD k (dfl .int)) rows) k1
      refine W.seq ?_
      refine W.seq ?_
      refine W.reg X [] [] [0, 3, 9, 10, 12, 13, 14, 46] [] rfl ⟨⟩ ?_
      refine W.cond rfl (fun hb2 => ?_) (fun hb2 => ?_)
      · try simp only [nb, inr_t, inr_f, isEmpty_t] at hb2
        have hs1 := mdbRows_step (sd.getD k (dfl .int)) rows k1 (by omega)
        refine W.skip ?_
        refine W.seq ?_
        refine W.block ?_
        refine W.draw X [(60, 60)] [(58, ⟨true, [.a (.sl .u8 (stream (IntKind.i64.wrap ((sd.getD k (dfl .int)) + IntKind.i64.wrap (1000 * (k1 : Int)))) (24 : Int).toNat))]⟩), (500059, ⟨true, []⟩)] [0, 3, 9, 10, 12, 13, 14] [] 11 MO (by kernel_rfl) rfl (by (repeat' (first | with_reducible exact AllP.nil | with_reducible refine AllP.mk ?_ ?_ | with_reducible apply And.intro)) <;> skip; (iterate 1 (all_goals try (first | exact (c_spec_StreamBytes (IntKind.i64.wrap ((sd.getD k (dfl .int)) + IntKind.i64.wrap (1000 * (k1 : Int)))) 24 (by first | assumption | omega | (simp; done) | (simp; omega)) (by first | assumption | omega | (simp; done) | (simp; omega)))))); all_goals (first | (intros; omega) | exact rfl | exact ⟨rfl, El_all _ (by decide)⟩ | (simp only [byt, maxLen, lens]; omega))) ?_
        refine W.reg X [] [] [0, 3, 9, 10, 12, 13, 14] [] rfl ⟨⟩ ?_
        refine ⟨k1 + 1, by omega, by omega, ?_⟩
        rw [wadd _ k1 rfl (by omega), hs1]
        try rfl
      · try simp only [nb, inr_t, inr_f, isEmpty_t] at hb2
        rw [List.take_of_length_le (show (mdbRows (sd.getD k (dfl .int)) rows).length ≤ k1 by rw [mdbRows_len]; omega)]
        refine W.exit ?_
        refine W.seq ?_
        refine W.reg X [] [(65, ⟨true, [.agg (dec_DB (xorDB (lastW rows i c (sd.take k)) (mdb (sd.getD k (dfl .int)) rows))), .a (.lit (.bool (xdOK (lastW rows i c (sd.take k)) (mdb (sd.getD k (dfl .int)) rows))))]⟩)] [0, 3, 9, 10, 12, 13] [] rfl (by (repeat' (first | with_reducible exact AllP.nil | with_reducible refine AllP.mk ?_ ?_ | with_reducible apply And.intro)) <;> skip; (iterate 1 (all_goals try (first | exact (c_spec_XorDatabases (lastW rows i c (sd.take k)) (mdb (sd.getD k (dfl .int)) rows) (by first | assumption | omega | (simp; done) | (simp; omega)) (by first | assumption | omega | (simp; done) | (simp; omega))))))) ?_
        refine W.renameB 10 0 34 rfl ?_
        refine W.reg X [(71, 15)] [] [0, 3, 9, 10, 12] [] rfl (by (repeat' (first | exact True.intro | apply And.intro)) <;> first | exact rfl | (simp only [byt, maxLen, lens]; omega)) ?_
        refine W.reg X [] [] [0, 3, 9, 10, 12] [] rfl ⟨⟩ ?_
        refine ⟨k + 1, by omega, by omega, ?_⟩
        rw [wadd _ k rfl (by omega), hs, hs2]
        try rfl
    · try simp only [nb, inr_t, inr_f, isEmpty_t] at hb1
      refine W.exit ?_
      refine W.seq ?_
      refine W.reg X [(75, 15)] [] [8] [] rfl (by (repeat' (first | exact True.intro | apply And.intro)) <;> first | exact rfl | (simp only [byt, maxLen, lens]; omega)) ?_
      refine W.ret ?_
      exact Fin.ret rfl ⟨by rw [List.take_of_length_le hb1, makeW, if_pos hmk], ⟨⟩⟩
end Go.Proofs.YthjedjndamejmaaGreat.G
