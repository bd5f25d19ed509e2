/-
  FnExactRoundTransfers, walked by the symbolic machine: it returns true.
-/
import Derived.Test.YtlocnjfgeifmnaaZRoundTransfersM8
import Derived.ProofKit
import Derived.Lib.AppendZeros
import Derived.Test.YtlocnjfgeifmnaaZRoundTransfersM7
namespace Go.Proofs.Ytlocnjfgeifmnaa.G
set_option linter.all false
open Go.RowKit L D
set_option maxRecDepth 100000
theorem grow_ret {w w' : World} {t : Tag} {g n : Nat} {c : Array Value} (hg : g = w.heap.size) (hb : Below w.heap.size w w') (hc : w'.heap[g]? = some (.cells c (ty t) (0, 0))) (hs : c.size = n * kk t) (hn : n ≤ maxLen) :
    Ret ty w [.a (.sl t [])] (.returned (.slice (some ⟨g, 0, none⟩) 0 n)) w' := by
  have hown : Own w.heap.size w' (g :: ([] : List (List Nat)).flatten) := ⟨by simp, fun b hbm => by simp at hbm; omega, fun b hbm => by simp at hbm; subst hbm; exact ⟨_, _, hc⟩⟩
  have hp : Part (kk t) (rd t) w.heap.size (ty t) w' g n ([] : List (T t)) [] := ⟨⟨c, hc, hs⟩, ⟨rfl, by simp⟩, hown, hn⟩
  have hB := Part.bld (fine t) hp (Nat.zero_le _)
  exact ⟨_, _, rfl, hb, hown, _, [], hB, rfl, by simp⟩
theorem nil_ret {w : World} {t : Tag} : Ret ty w [.a (.sl t [])] (.returned nilv) w := by
  refine ⟨_, [], rfl, Below.refl _ _, Own.nil _ _, [], [], ⟨[], [], ?_, rfl, by simp, rfl, Own.nil _ _⟩, rfl, rfl⟩
  exact ⟨by simp, Or.inl ⟨rfl, rfl⟩⟩
end Go.Proofs.Ytlocnjfgeifmnaa.G
namespace Go.Proofs.Ytlocnjfgeifmnaa.G
set_option linter.all false
open Go.RowKit L D
set_option maxRecDepth 100000
theorem c_impl_InRange (x lo hi : Int) : Sound ty Try.prog 45 [.a (.lit (.int .i64 x)), .a (.lit (.int .i64 lo)), .a (.lit (.int .i64 hi))] [.a (.lit (.bool (inr x lo hi)))] := by
  refine Sound.of X Try.call45 Try.func45 rfl rfl (by decide) Try.ntmps45 (by simp) ?_
  intro zb
  refine W.seq ?_
  refine W.reg X [] [] [0, 1, 2] [] rfl ⟨⟩ ?_
  refine W.seq ?_
  refine W.reg X [] [] [6] [] rfl ⟨⟩ ?_
  refine W.ret ?_
  exact Fin.ret rfl ⟨rfl, ⟨⟩⟩
theorem c_spec_l1In (x lo hi : Int) : Sound ty Try.prog 41 [.a (.lit (.int .i64 x)), .a (.lit (.int .i64 lo)), .a (.lit (.int .i64 hi))] [.a (.lit (.bool (inr x lo hi)))] := by
  refine Sound.of X Try.call41 Try.func41 rfl rfl (by decide) Try.ntmps41 (by simp) ?_
  intro zb
  refine W.seq ?_
  refine W.reg X [] [] [0, 1, 2] [] rfl ⟨⟩ ?_
  refine W.seq ?_
  refine W.reg X [] [] [6] [] rfl ⟨⟩ ?_
  refine W.ret ?_
  exact Fin.ret rfl ⟨rfl, ⟨⟩⟩
end Go.Proofs.Ytlocnjfgeifmnaa.G
namespace Go.Proofs.Ytlocnjfgeifmnaa.G
set_option linter.all false
open Go.RowKit L D
set_option maxRecDepth 100000
end Go.Proofs.Ytlocnjfgeifmnaa.G
namespace Go.Proofs.Ytlocnjfgeifmnaa.G
set_option linter.all false
open Go.RowKit L D
set_option maxRecDepth 100000
theorem c_impl_isServerCount (n : Int) : Sound ty Try.prog 73 [.a (.lit (.int .i64 n))] [.a (.lit (.bool (srvCnt n)))] := by
  refine Sound.of X Try.call73 Try.func73 rfl rfl (by decide) Try.ntmps73 (by simp) ?_
  intro zb
  refine W.seq ?_
  refine W.reg X [] [] [0] [] rfl ⟨⟩ ?_
  refine W.seq ?_
  refine W.reg X [] [(4, ⟨false, [.a (.lit (.bool _))]⟩)] [2] [] rfl (by (repeat' (first | with_reducible exact AllP.nil | with_reducible refine AllP.mk ?_ ?_ | with_reducible apply And.intro)) <;> skip; (iterate 1 (all_goals try (first | exact (c_impl_InRange _ _ _))))) ?_
  refine W.ret ?_
  exact Fin.ret rfl ⟨rfl, ⟨⟩⟩
theorem c_spec_l7Count (n : Int) : Sound ty Try.prog 84 [.a (.lit (.int .i64 n))] [.a (.lit (.bool (srvCnt n)))] := by
  refine Sound.of X Try.call84 Try.func84 rfl rfl (by decide) Try.ntmps84 (by simp) ?_
  intro zb
  refine W.seq ?_
  refine W.reg X [] [] [0] [] rfl ⟨⟩ ?_
  refine W.seq ?_
  refine W.reg X [] [(4, ⟨false, [.a (.lit (.bool _))]⟩)] [2] [] rfl (by (repeat' (first | with_reducible exact AllP.nil | with_reducible refine AllP.mk ?_ ?_ | with_reducible apply And.intro)) <;> skip; (iterate 1 (all_goals try (first | exact (c_spec_l1In _ _ _))))) ?_
  refine W.ret ?_
  exact Fin.ret rfl ⟨rfl, ⟨⟩⟩
end Go.Proofs.Ytlocnjfgeifmnaa.G
namespace Go.Proofs.Ytlocnjfgeifmnaa.G
set_option linter.all false
open Go.RowKit L D
set_option maxRecDepth 100000
def fm {α : Type} (f : Nat → List α) (k : Nat) : List α := (List.range k).flatMap f
theorem fm_succ {α : Type} (f : Nat → List α) (k : Nat) : fm f (k + 1) = fm f k ++ f k := by
  unfold fm; rw [List.range_succ, List.flatMap_append]; simp
theorem fm_zero {α : Type} (f : Nat → List α) : fm f 0 = [] := rfl
theorem fm_len {α : Type} {f : Nat → List α} {C K k : Nat} (h : ∀ i, (f i).length ≤ C) (hk : k ≤ K) : (fm f k).length ≤ K * C := by
  have : ∀ k, (fm f k).length ≤ k * C := by
    intro k
    induction k with
    | zero => simp [fm]
    | succ k ih => rw [fm_succ, List.length_append, Nat.add_mul]; have := h k; omega
  exact Nat.le_trans (this k) (Nat.mul_le_mul_right C hk)
def ok31 (c s r : Int) : Bool := inr c 0 8 && srvCnt s && inr r 1 64
theorem ok31_b {c s r : Int} (h : ok31 c s r = true) : (0 ≤ c ∧ c ≤ 8) ∧ (2 ≤ s ∧ s ≤ 4) ∧ 1 ≤ r ∧ r ≤ 64 := by
  simp only [ok31, srvCnt, Bool.and_eq_true, inr_t] at h; omega
def shSize (r : Int) : Int := if 1 ≤ r ∧ r ≤ 64 then r * 24 else 0
def selSize (r : Int) : Int := if 1 ≤ r ∧ r ≤ 64 then 1 + (r + 7) / 8 else 0
def wEl (r : Int) (a : Nat) (k : Nat) : List Trf := [⟨(a : Int), 100 + (k : Int), shSize r⟩]
def wT (c s r : Int) : List Trf := if ok31 c s r then fm (fun a => fm (wEl r a) s.toNat) c.toNat else []
def pEl (r : Int) (a : Nat) (b : Nat) : List Trf := if a = b then [] else [⟨100 + (a : Int), 100 + (b : Int), shSize r⟩]
def pT (s r : Int) : List Trf := if ok31 0 s r then fm (fun a => fm (pEl r a) s.toNat) s.toNat else []
def rEl (r : Int) (a : Nat) (k : Nat) : List Trf := [⟨(a : Int), 100 + (k : Int), selSize r⟩, ⟨100 + (k : Int), (a : Int), 24⟩]
def rStep (s r : Int) (a : Nat) (_ : Nat) : List Trf := fm (rEl r a) s.toNat
def rOK (c s r n : Int) : Bool := ok31 c s r && inr n 0 8
def rT (c s r n : Int) : List Trf := if rOK c s r n then fm (fun a => fm (rStep s r a) (2 * n).toNat) c.toNat else []
theorem w1_len {r s : Int} (hs : s ≤ 4) (a : Nat) {k : Nat} (hk : k ≤ s.toNat) : (fm (wEl r a) k).length ≤ 4 := fm_len (C := 1) (K := 4) (fun i => by simp [wEl]) (by omega)
theorem w2_len {r s : Int} (hs : s ≤ 4) {k : Nat} (hk : k ≤ 8) : (fm (fun a => fm (wEl r a) s.toNat) k).length ≤ 32 := fm_len (C := 4) (K := 8) (fun i => w1_len hs i (Nat.le_refl _)) hk
theorem p1_len {r s : Int} (hs : s ≤ 4) (a : Nat) {k : Nat} (hk : k ≤ s.toNat) : (fm (pEl r a) k).length ≤ 4 := fm_len (C := 1) (K := 4) (fun i => by unfold pEl; split <;> simp) (by omega)
theorem p2_len {r s : Int} (hs : s ≤ 4) {k : Nat} (hk : k ≤ s.toNat) : (fm (fun a => fm (pEl r a) s.toNat) k).length ≤ 16 := fm_len (C := 4) (K := 4) (fun i => p1_len hs i (Nat.le_refl _)) (by omega)
theorem r1_len {r s : Int} (hs : s ≤ 4) (a : Nat) {k : Nat} (hk : k ≤ s.toNat) : (fm (rEl r a) k).length ≤ 8 := fm_len (C := 2) (K := 4) (fun i => by simp [rEl]) (by omega)
theorem r2_len {r s : Int} (hs : s ≤ 4) (a : Nat) {k : Nat} (hk : k ≤ 16) : (fm (rStep s r a) k).length ≤ 128 := fm_len (C := 8) (K := 16) (fun i => r1_len hs a (Nat.le_refl _)) hk
theorem r3_len {r s n : Int} (hs : s ≤ 4) (hn : n ≤ 8) {k : Nat} (hk : k ≤ 8) : (fm (fun a => fm (rStep s r a) (2 * n).toNat) k).length ≤ 1024 := fm_len (C := 128) (K := 8) (fun i => r2_len hs i (by omega)) hk
theorem wT_len (c s r : Int) : (wT c s r).length ≤ 32 := by
  unfold wT; split
  · rename_i h; have := ok31_b h; exact w2_len (by omega) (by omega)
  · simp
theorem pT_len (s r : Int) : (pT s r).length ≤ 16 := by
  unfold pT; split
  · rename_i h; have := ok31_b h; exact p2_len (by omega) (Nat.le_refl _)
  · simp
theorem rT_len (c s r n : Int) : (rT c s r n).length ≤ 1024 := by
  unfold rT; split
  · rename_i h
    simp only [rOK, Bool.and_eq_true, inr_t] at h
    have := ok31_b h.1; exact r3_len (by omega) (by omega) (by omega)
  · simp
theorem and_yes0 {E R : Bool} (h : E = true) (he : E = R) : R = true := by rw [← he]; exact h
theorem and_no0 {E R : Bool} (h : E = false) (he : E = R) : R = false := by rw [← he]; exact h
theorem rOK_1 {c s r n : Int} (h : rOK c s r n = true) : ok31 c s r = true := by simp only [rOK, Bool.and_eq_true] at h; exact h.1
theorem rOK_2 {c s r n : Int} (h : rOK c s r n = true) : 0 ≤ n ∧ n ≤ 8 := by simp only [rOK, Bool.and_eq_true, inr_t] at h; exact h.2
theorem wT_done {c s r : Int} {k : Nat} (hk : k ≤ c.toNat) (hks : k = 0 ∨ ok31 c s r = true) (h : (decide ((k : Int) < c) && ok31 c s r) = false) : fm (fun a => fm (wEl r a) s.toNat) k = wT c s r := by
  unfold wT
  cases hs : ok31 c s r with
  | true => rw [hs, Bool.and_true, decide_eq_false_iff_not] at h; rw [if_pos rfl, show k = c.toNat by omega]
  | false =>
    rw [hs] at hks
    have : k = 0 := by simpa using hks
    subst this; rfl
theorem pT_done {s r : Int} {k : Nat} (hk : k ≤ s.toNat) (hks : k = 0 ∨ ok31 0 s r = true) (h : (decide ((k : Int) < s) && ok31 0 s r) = false) : fm (fun a => fm (pEl r a) s.toNat) k = pT s r := by
  unfold pT
  cases hs : ok31 0 s r with
  | true => rw [hs, Bool.and_true, decide_eq_false_iff_not] at h; rw [if_pos rfl, show k = s.toNat by omega]
  | false =>
    rw [hs] at hks
    have : k = 0 := by simpa using hks
    subst this; rfl
def rdT (x : Wld) : List Trf := wT x.devices.length x.servers.length x.rows ++ pT x.servers.length x.rows ++ rT x.devices.length x.servers.length x.rows 1
theorem sel_quo {r : Int} (h : 1 ≤ r ∧ r ≤ 64) : IntKind.i64.wrap (1 + IntKind.i64.wrap ((IntKind.i64.wrap (r + 7)).tdiv 8)) = selSize r := by
  unfold selSize
  rw [if_pos h, i64w (a := r + 7) (by omega), tdiv_pos (by omega), i64w (a := (r + 7) / 8) (by omega), i64w (by omega)]
def ceilD (a : Int) : Int := (a + 7) / 8
theorem Grow_trf (w : World) (n : Nat) (h1 : n ≤ 1099511627776) : Calls Try.prog 56 #[nilv, .int .i64 n] w (Ret ty w [.a (.sl .Trf [])]) := by
  have hEl : El Try.prog ty .Trf := El_all _ (by decide)
  cases hq : Try.prog.info? (ty .Trf) with
  | none => simp [El, hq] at hEl
  | some inf =>
    simp [El, hq] at hEl
    obtain ⟨z1, z2, z3⟩ := hEl
    by_cases h0 : n = 0
    · subst h0
      go_enter Try.func56, Try.ntmps56
      go_wp2
      go_ret
      exact nil_ret
    · have hsz : inf.size = 3 := z2
      have hby : inf.bytes ≤ 24 := by rw [z3]; decide
      have hmul : n * inf.bytes ≤ 26388279066624 := Nat.le_trans (Nat.mul_le_mul (show n ≤ 1099511627776 from h1) hby) (by decide)
      have hrun := Lib.run_append_nil_zeros (P := Try.prog) w 31 3 31 (ty .Trf) inf (zval .Trf) .i64 .i64 (X.kind 31).1 (X.kind 3) hq z1 n (by omega) (by omega) (by omega) (by omega)
      have hge := grownCap_ge w n 0 (ty .Trf)
      have hmx := grownCap_le_maxLen w n 0 (ty .Trf) (by unfold maxLen; omega)
      generalize grownCap w n 0 (ty .Trf) = g at hrun hge hmx
      go_enter Try.func56, Try.ntmps56
      go_wp2_with (at_builtin; refine Lib.wpList_append_run _ rfl _ _ _ _ rfl _ _ rfl rfl _ _ hrun ?_)
      go_ret
      refine grow_ret (t := .Trf) rfl ((Below.refl _ _).drew.alloc (Nat.le_refl _) _) (alloc_top rfl) ?_ hmx
      rw [Array.size_append, size_zeroCells, size_zeroCells, ← Nat.add_mul, show n + (g - n) = g by omega]
      all_goals first
        | rfl
        | (rename_i heq; injection heq with heq; subst heq; rfl)
        | (rename_i heq; exact absurd rfl (heq _))
theorem c_slices_Grow_impl_Transfer_impl_Transfer (n : Nat) (h1 : n ≤ 1099511627776) : Sound ty Try.prog 56 [.a (.lit nilv), .a (.lit (.int .i64 n))] [.a (.sl .Trf [])] := by
  refine ⟨fun args w => Try.call56 args w, fun w us ha => ?_⟩
  match us, ha with
  | [u1, u2], ⟨⟨_, e1⟩, ⟨_, e2⟩, _⟩ =>
    obtain ⟨e1, _⟩ := e1
    obtain ⟨e2, _⟩ := e2
    rw [e1, e2]
    exact Grow_trf w n h1
end Go.Proofs.Ytlocnjfgeifmnaa.G
namespace Go.Proofs.Ytlocnjfgeifmnaa.G
set_option linter.all false
open Go.RowKit L D
set_option maxRecDepth 100000
theorem c_slices_Concat_impl_Transfer_impl_Transfer (l : List (List Trf)) (hl : l.length ≤ 1048576) (hs0 : (l.map List.length).sum ≤ 1048576) : Sound ty Try.prog 27 [.a (.sl (.sl .Trf) l)] [.a (.sl .Trf l.flatten)] := by
  refine Sound.of X Try.call27 Try.func27 rfl rfl (by decide) Try.ntmps27 (by simp) ?_
  intro zb
  refine W.seq ?_
  refine W.reg X [] [] [0] [] rfl ⟨⟩ ?_
  refine W.seq ?_
  refine W.reg X [] [] [0, 3] [] rfl ⟨⟩ ?_
  refine W.seq ?_
  refine W.seq ?_
  refine W.reg X [] [] [0, 3, 9, 10, 11] [] rfl ⟨⟩ ?_
  refine W.block ?_
  refine W.loopO (fun k => k ≤ l.length) (fun k : Nat => [(3, .one (.a (.lit (.int .i64 ((l.take k).map List.length).sum)))), (11, .one (.a (.lit (.int .i64 k))))]) (fun k => []) (fun k => l.length - k) 0 (fun k => rfl) (Nat.zero_le _) rfl ?_
  intro k hk
  have hle := take_sum_le l List.length k
  refine W.seq ?_
  refine W.reg X [] [] [0, 3, 9, 10, 11, 12] [] rfl ⟨⟩ ?_
  refine W.seq ?_
  refine W.cond rfl (fun hb0 => ?_) (fun hb0 => ?_)
  · try simp only [nb, inr_t, inr_f, isEmpty_t] at hb0
    have hs := lensum_step l (dfl (.sl .Trf)) k hb0
    have hle2 := take_sum_le l List.length (k + 1)
    rw [hs] at hle2
    refine W.skip ?_
    refine W.seq ?_
    refine W.block ?_
    refine W.seq ?_
    refine W.reg X [] [] [0, 3, 5, 9, 10, 11] [] rfl (by (repeat' (first | exact True.intro | apply And.intro)) <;> first | (intros; omega)) ?_
    refine W.seq ?_
    refine W.reg X [] [] [0, 3, 9, 10, 11] [] rfl (by (repeat' (first | exact True.intro | apply And.intro))) ?_
    refine W.seq ?_
    refine W.reg X [] [] [0, 3, 9, 10, 11, 20] [] rfl ⟨⟩ ?_
    refine W.cond rfl (fun hb1 => ?_) (fun hb1 => ?_)
    · try simp only [nb, inr_t, inr_f, isEmpty_t] at hb1
      rw [i64w (by omega)] at hb1
      omega
    · try simp only [nb, inr_t, inr_f, isEmpty_t] at hb1
      refine W.skip ?_
      refine W.reg X [] [] [0, 3, 9, 10, 11] [] rfl ⟨⟩ ?_
      refine ⟨k + 1, by omega, by omega, ?_⟩
      rw [wadd _ k rfl (by omega), hs]
      rw [i64w (by simp only [Int.toNat_natCast]; omega)]
      try rfl
  · try simp only [nb, inr_t, inr_f, isEmpty_t] at hb0
    rw [List.take_of_length_le hb0]
    refine W.exit ?_
    refine W.seq ?_
    refine W.reg X [] [(24, ⟨true, [.a (.sl .Trf [])]⟩), (300024, ⟨true, []⟩)] [0, 6] [] rfl (by (repeat' (first | with_reducible exact AllP.nil | with_reducible refine AllP.mk ?_ ?_ | with_reducible apply And.intro)) <;> skip; (iterate 1 (all_goals try (first | exact (c_slices_Grow_impl_Transfer_impl_Transfer _ (by omega)))))) ?_
    refine W.seq ?_
    refine W.seq ?_
    refine W.reg X [] [] [6, 25, 26, 27] [] rfl ⟨⟩ ?_
    refine W.block ?_
    refine W.loopO (fun k1 => k1 ≤ l.length) (fun k1 : Nat => [(27, .one (.a (.lit (.int .i64 k1))))]) (fun k1 => [(24, .arr .Trf (l.take k1).flatten)]) (fun k1 => l.length - k1) 0 (fun k1 => rfl) (Nat.zero_le _) rfl ?_
    intro k1 hk1
    have hle1 := flatten_len l k1
    refine W.seq ?_
    refine W.reg X [] [] [6, 25, 26, 27, 28] [] rfl ⟨⟩ ?_
    refine W.seq ?_
    refine W.cond rfl (fun hb2 => ?_) (fun hb2 => ?_)
    · try simp only [nb, inr_t, inr_f, isEmpty_t] at hb2
      have hs1 := flatten_step l (dfl (.sl .Trf)) k1 hb2
      have hle2 := flatten_len l (k1 + 1)
      rw [hs1, List.length_append] at hle2
      refine W.skip ?_
      refine W.seq ?_
      refine W.block ?_
      refine W.seq ?_
      refine W.reg X [] [] [6, 8, 25, 26, 27] [] rfl (by (repeat' (first | exact True.intro | apply And.intro)) <;> first | (intros; omega)) ?_
      refine W.reg X [(33, 24)] [] [6, 25, 26, 27] [] rfl (by (repeat' (first | exact True.intro | apply And.intro)) <;> first | exact rfl | (simp only [byt, maxLen, lens]; omega)) ?_
      refine W.reg X [] [] [6, 25, 26, 27] [] rfl ⟨⟩ ?_
      refine ⟨k1 + 1, by omega, by omega, ?_⟩
      rw [wadd _ k1 rfl (by omega), hs1]
      try rfl
    · try simp only [nb, inr_t, inr_f, isEmpty_t] at hb2
      refine W.exit ?_
      refine W.seq ?_
      refine W.reg X [] [] [2] [] rfl ⟨⟩ ?_
      refine W.ret ?_
      exact Fin.ret rfl ⟨by rw [List.take_of_length_le hb2], ⟨⟩⟩
theorem c_impl_areSizes (c s r : Int) : Sound ty Try.prog 57 [.a (.lit (.int .i64 c)), .a (.lit (.int .i64 s)), .a (.lit (.int .i64 r))] [.a (.lit (.bool (ok31 c s r)))] := by
  refine Sound.of X Try.call57 Try.func57 rfl rfl (by decide) Try.ntmps57 (by simp) ?_
  intro zb
  refine W.seq ?_
  refine W.reg X [] [] [0, 1, 2] [] rfl ⟨⟩ ?_
  refine W.seq ?_
  refine W.reg X [] [(8, ⟨false, [.a (.lit (.bool (inr c 0 8)))]⟩), (11, ⟨false, [.a (.lit (.bool (srvCnt s)))]⟩), (15, ⟨false, [.a (.lit (.bool (inr r 1 64)))]⟩)] [6] [] rfl (by (repeat' (first | with_reducible exact AllP.nil | with_reducible refine AllP.mk ?_ ?_ | with_reducible apply And.intro)) <;> skip; (iterate 3 (all_goals try (first | exact (c_impl_InRange c 0 8) | exact fun _ => (c_impl_isServerCount s) | exact fun _ => (c_impl_InRange r 1 64))))) ?_
  refine W.ret ?_
  exact Fin.ret rfl ⟨(congrArg Value.bool (by simp only [ok31, ite_tt, ite_ff, gt_iff_lt, ge_iff_le, not_dlt, not_dle, bne_not, deq, decide_not, ne_eq, Bool.not_and, Bool.not_or, Bool.not_not, Bool.and_true, Bool.true_and, Bool.or_false, Bool.false_or, Int.toNat_natCast] <;> first | rfl | ac_rfl)), ⟨⟩⟩
theorem c_impl_ShareSize (r : Int) : Sound ty Try.prog 58 [.a (.lit (.int .i64 r))] [.a (.lit (.int .i64 (shSize r)))] := by
  refine Sound.of X Try.call58 Try.func58 rfl rfl (by decide) Try.ntmps58 (by simp) ?_
  intro zb
  refine W.seq ?_
  refine W.reg X [] [] [0] [] rfl ⟨⟩ ?_
  refine W.seq ?_
  refine W.seq ?_
  refine W.reg X [] [(4, ⟨false, [.a (.lit (.bool (inr r 1 64)))]⟩)] [0, 5] [] rfl (by (repeat' (first | with_reducible exact AllP.nil | with_reducible refine AllP.mk ?_ ?_ | with_reducible apply And.intro)) <;> skip; (iterate 1 (all_goals try (first | exact (c_impl_InRange r 1 64))))) ?_
  refine W.cond rfl (fun hb0 => ?_) (fun hb0 => ?_)
  · try simp only [nb, inr_t, inr_f, isEmpty_t] at hb0
    refine W.seq ?_
    refine W.reg X [] [] [2] [] rfl ⟨⟩ ?_
    refine W.ret ?_
    exact Fin.ret rfl ⟨by rw [shSize, if_neg (by omega)], ⟨⟩⟩
  · try simp only [nb, inr_t, inr_f, isEmpty_t] at hb0
    refine W.skip ?_
    refine W.seq ?_
    refine W.reg X [] [] [2] [] rfl ⟨⟩ ?_
    refine W.ret ?_
    exact Fin.ret rfl ⟨by rw [shSize, if_pos (by omega), i64w (by omega)], ⟨⟩⟩
theorem c_impl_SelectionSize (r : Int) : Sound ty Try.prog 59 [.a (.lit (.int .i64 r))] [.a (.lit (.int .i64 (selSize r)))] := by
  refine Sound.of X Try.call59 Try.func59 rfl rfl (by decide) Try.ntmps59 (by simp) ?_
  intro zb
  refine W.seq ?_
  refine W.reg X [] [] [0] [] rfl ⟨⟩ ?_
  refine W.seq ?_
  refine W.seq ?_
  refine W.reg X [] [(4, ⟨false, [.a (.lit (.bool (inr r 1 64)))]⟩)] [0, 5] [] rfl (by (repeat' (first | with_reducible exact AllP.nil | with_reducible refine AllP.mk ?_ ?_ | with_reducible apply And.intro)) <;> skip; (iterate 1 (all_goals try (first | exact (c_impl_InRange r 1 64))))) ?_
  refine W.cond rfl (fun hb0 => ?_) (fun hb0 => ?_)
  · try simp only [nb, inr_t, inr_f, isEmpty_t] at hb0
    refine W.seq ?_
    refine W.reg X [] [] [2] [] rfl ⟨⟩ ?_
    refine W.ret ?_
    exact Fin.ret rfl ⟨by rw [selSize, if_neg (by omega)], ⟨⟩⟩
  · try simp only [nb, inr_t, inr_f, isEmpty_t] at hb0
    refine W.skip ?_
    refine W.seq ?_
    refine W.reg X [] [] [2] [] rfl (by (repeat' (first | exact True.intro | apply And.intro)) <;> first | (intros; omega)) ?_
    refine W.ret ?_
    exact Fin.ret rfl ⟨by rw [sel_quo (by omega)], ⟨⟩⟩
theorem c_impl_WriteTransfers (c s r : Int) : Sound ty Try.prog 28 [.a (.lit (.int .i64 c)), .a (.lit (.int .i64 s)), .a (.lit (.int .i64 r))] [.a (.sl .Trf (wT c s r))] := by
  refine Sound.of X Try.call28 Try.func28 rfl rfl (by decide) Try.ntmps28 (by simp) ?_
  intro zb
  refine W.seq ?_
  refine W.reg X [] [] [0, 1, 2] [] rfl ⟨⟩ ?_
  refine W.seq ?_
  refine W.seq ?_
  refine W.reg X [] [(13, ⟨false, [.a (.lit (.bool (ok31 c s r)))]⟩)] [0, 1, 2, 14] [] rfl (by (repeat' (first | with_reducible exact AllP.nil | with_reducible refine AllP.mk ?_ ?_ | with_reducible apply And.intro)) <;> skip; (iterate 1 (all_goals try (first | exact (c_impl_areSizes c s r))))) ?_
  refine W.cond rfl (fun hb0 => ?_) (fun hb0 => ?_)
  · have hk0 : ok31 c s r = false := by simpa using hb0
    refine W.seq ?_
    refine W.reg X [] [] [6] [] rfl ⟨⟩ ?_
    refine W.ret ?_
    exact Fin.ret rfl ⟨by rw [wT, hk0]; rfl, ⟨⟩⟩
  · have hk0 : ok31 c s r = true := by simpa using hb0
    have hok := ok31_b hk0
    refine W.skip ?_
    refine W.seq ?_
    refine W.reg X [] [] [0, 1, 2, 7] [] rfl (by (repeat' (first | exact True.intro | apply And.intro)) <;> first | exact rfl) ?_
    refine W.seq ?_
    refine W.seq ?_
    refine W.reg X [] [] [1, 2, 7, 16, 17] [] rfl ⟨⟩ ?_
    refine W.block ?_
    refine W.loopO (fun k => k ≤ c.toNat) (fun k : Nat => [(17, .one (.a (.lit (.int .i64 k))))]) (fun k => [(15, .arr .Trf (fm (fun a => fm (wEl r a) s.toNat) k))]) (fun k => c.toNat - k) 0 (fun k => rfl) (Nat.zero_le _) rfl ?_
    intro k hk
    have hle := w2_len (r := r) (s := s) (k := k) (by omega) (by omega)
    refine W.seq ?_
    refine W.reg X [] [] [1, 2, 7, 16, 17, 18] [] rfl ⟨⟩ ?_
    refine W.seq ?_
    refine W.cond rfl (fun hb1 => ?_) (fun hb1 => ?_)
    · try simp only [nb, inr_t, inr_f, isEmpty_t] at hb1
      refine W.skip ?_
      refine W.seq ?_
      refine W.block ?_
      refine W.seq ?_
      refine W.reg X [] [] [1, 2, 7, 8, 16, 17] [] rfl ⟨⟩ ?_
      refine W.seq ?_
      refine W.reg X [] [] [1, 2, 7, 8, 16, 17, 20, 21] [] rfl ⟨⟩ ?_
      refine W.block ?_
      refine W.loopO (fun k1 => k1 ≤ s.toNat) (fun k1 : Nat => [(21, .one (.a (.lit (.int .i64 k1))))]) (fun k1 => [(15, .arr .Trf (fm (fun a => fm (wEl r a) s.toNat) k ++ fm (wEl r k) k1))]) (fun k1 => s.toNat - k1) 0 (fun k1 => rfl) (Nat.zero_le _) (by simp [fm_zero]) ?_
      intro k1 hk1
      have hle1 := w1_len (r := r) (s := s) (by omega) k hk1
      refine W.seq ?_
      refine W.reg X [] [] [1, 2, 7, 8, 16, 17, 20, 21, 22] [] rfl ⟨⟩ ?_
      refine W.seq ?_
      refine W.cond rfl (fun hb2 => ?_) (fun hb2 => ?_)
      · try simp only [nb, inr_t, inr_f, isEmpty_t] at hb2
        have hw : IntKind.i64.wrap (100 + (k1 : Int)) = 100 + (k1 : Int) := i64w (by omega)
        have hs1 : fm (wEl r k) (k1 + 1) = fm (wEl r k) k1 ++ [⟨(k : Int), 100 + (k1 : Int), shSize r⟩] := fm_succ _ _
        refine W.skip ?_
        refine W.seq ?_
        refine W.block ?_
        refine W.seq ?_
        refine W.reg X [] [] [1, 2, 7, 8, 9, 16, 17, 20, 21] [] rfl ⟨⟩ ?_
        refine W.reg X [(32, 15)] [(29, ⟨false, [.a (.lit (.int .i64 (shSize r)))]⟩)] [1, 2, 7, 8, 16, 17, 20, 21] [] rfl (by (repeat' (first | with_reducible exact AllP.nil | with_reducible refine AllP.mk ?_ ?_ | with_reducible apply And.intro)) <;> skip; (iterate 1 (all_goals try (first | exact (c_impl_ShareSize r)))); all_goals (first | exact rfl | exact ⟨rfl, El_all _ (by decide)⟩ | (simp only [byt, maxLen, lens]; omega))) ?_
        refine W.reg X [] [] [1, 2, 7, 8, 16, 17, 20, 21] [] rfl ⟨⟩ ?_
        refine ⟨k1 + 1, by omega, by omega, ?_⟩
        rw [wadd _ k1 rfl (by omega), hw, List.append_assoc, ← hs1]
        try rfl
      · try simp only [nb, inr_t, inr_f, isEmpty_t] at hb2
        have hs : fm (fun a => fm (wEl r a) s.toNat) (k + 1) = fm (fun a => fm (wEl r a) s.toNat) k ++ fm (wEl r k) s.toNat := fm_succ _ _
        rw [show k1 = s.toNat by omega, ← hs]
        refine W.exit ?_
        refine W.reg X [] [] [1, 2, 7, 16, 17] [] rfl ⟨⟩ ?_
        refine ⟨k + 1, by omega, by omega, ?_⟩
        rw [wadd _ k rfl (by omega)]
        try rfl
    · try simp only [nb, inr_t, inr_f, isEmpty_t] at hb1
      refine W.exit ?_
      refine W.seq ?_
      refine W.reg X [] [] [6] [] rfl ⟨⟩ ?_
      refine W.ret ?_
      exact Fin.ret rfl ⟨by rw [wT, if_pos hk0, show c.toNat = k by omega], ⟨⟩⟩
theorem c_impl_PublishTransfers (s r : Int) : Sound ty Try.prog 29 [.a (.lit (.int .i64 s)), .a (.lit (.int .i64 r))] [.a (.sl .Trf (pT s r))] := by
  refine Sound.of X Try.call29 Try.func29 rfl rfl (by decide) Try.ntmps29 (by simp) ?_
  intro zb
  refine W.seq ?_
  refine W.reg X [] [] [0, 1] [] rfl ⟨⟩ ?_
  refine W.seq ?_
  refine W.seq ?_
  refine W.reg X [] [(10, ⟨false, [.a (.lit (.bool (ok31 0 s r)))]⟩)] [0, 1, 11] [] rfl (by (repeat' (first | with_reducible exact AllP.nil | with_reducible refine AllP.mk ?_ ?_ | with_reducible apply And.intro)) <;> skip; (iterate 1 (all_goals try (first | exact (c_impl_areSizes 0 s r))))) ?_
  refine W.cond rfl (fun hb0 => ?_) (fun hb0 => ?_)
  · have hk0 : ok31 0 s r = false := by simpa using hb0
    refine W.seq ?_
    refine W.reg X [] [] [4] [] rfl ⟨⟩ ?_
    refine W.ret ?_
    exact Fin.ret rfl ⟨by rw [pT, hk0]; rfl, ⟨⟩⟩
  · have hk0 : ok31 0 s r = true := by simpa using hb0
    have hok := ok31_b hk0
    refine W.skip ?_
    refine W.seq ?_
    refine W.reg X [] [] [0, 1, 5] [] rfl (by (repeat' (first | exact True.intro | apply And.intro)) <;> first | exact rfl) ?_
    refine W.seq ?_
    refine W.seq ?_
    refine W.reg X [] [] [0, 1, 5, 13, 14] [] rfl ⟨⟩ ?_
    refine W.block ?_
    refine W.loopO (fun k => k ≤ s.toNat) (fun k : Nat => [(14, .one (.a (.lit (.int .i64 k))))]) (fun k => [(12, .arr .Trf (fm (fun a => fm (pEl r a) s.toNat) k))]) (fun k => s.toNat - k) 0 (fun k => rfl) (Nat.zero_le _) rfl ?_
    intro k hk
    have hle := p2_len (r := r) (s := s) (k := k) (by omega) hk
    refine W.seq ?_
    refine W.reg X [] [] [0, 1, 5, 13, 14, 15] [] rfl ⟨⟩ ?_
    refine W.seq ?_
    refine W.cond rfl (fun hb1 => ?_) (fun hb1 => ?_)
    · try simp only [nb, inr_t, inr_f, isEmpty_t] at hb1
      refine W.skip ?_
      refine W.seq ?_
      refine W.block ?_
      refine W.seq ?_
      refine W.reg X [] [] [0, 1, 5, 6, 13, 14] [] rfl ⟨⟩ ?_
      refine W.seq ?_
      refine W.reg X [] [] [0, 1, 5, 6, 13, 14, 17, 18] [] rfl ⟨⟩ ?_
      refine W.block ?_
      refine W.loopO (fun k1 => k1 ≤ s.toNat) (fun k1 : Nat => [(18, .one (.a (.lit (.int .i64 k1))))]) (fun k1 => [(12, .arr .Trf (fm (fun a => fm (pEl r a) s.toNat) k ++ fm (pEl r k) k1))]) (fun k1 => s.toNat - k1) 0 (fun k1 => rfl) (Nat.zero_le _) (by simp [fm_zero]) ?_
      intro k1 hk1
      have hle1 := p1_len (r := r) (s := s) (by omega) k hk1
      refine W.seq ?_
      refine W.reg X [] [] [0, 1, 5, 6, 13, 14, 17, 18, 19] [] rfl ⟨⟩ ?_
      refine W.seq ?_
      refine W.cond rfl (fun hb2 => ?_) (fun hb2 => ?_)
      · try simp only [nb, inr_t, inr_f, isEmpty_t] at hb2
        refine W.skip ?_
        refine W.seq ?_
        refine W.block ?_
        refine W.seq ?_
        refine W.reg X [] [] [0, 1, 5, 6, 7, 13, 14, 17, 18] [] rfl ⟨⟩ ?_
        refine W.seq ?_
        refine W.reg X [] [] [0, 1, 5, 6, 7, 13, 14, 17, 18, 23] [] rfl ⟨⟩ ?_
        refine W.cond rfl (fun hb3 => ?_) (fun hb3 => ?_)
        · try simp only [nb, inr_t, inr_f, isEmpty_t] at hb3
          have hw : IntKind.i64.wrap (100 + (k1 : Int)) = 100 + (k1 : Int) := i64w (by omega)
          have hwk : IntKind.i64.wrap (100 + (k : Int)) = 100 + (k : Int) := i64w (by omega)
          have hs1 : fm (pEl r k) (k1 + 1) = fm (pEl r k) k1 ++ [⟨100 + (k : Int), 100 + (k1 : Int), shSize r⟩] := by rw [fm_succ, pEl, if_neg (by omega)]
          refine W.reg X [(33, 12)] [(30, ⟨false, [.a (.lit (.int .i64 (shSize r)))]⟩)] [0, 1, 5, 6, 13, 14, 17, 18] [] rfl (by (repeat' (first | with_reducible exact AllP.nil | with_reducible refine AllP.mk ?_ ?_ | with_reducible apply And.intro)) <;> skip; (iterate 1 (all_goals try (first | exact (c_impl_ShareSize r)))); all_goals (first | exact rfl | exact ⟨rfl, El_all _ (by decide)⟩ | (simp only [byt, maxLen, lens]; omega))) ?_
          refine W.reg X [] [] [0, 1, 5, 6, 13, 14, 17, 18] [] rfl ⟨⟩ ?_
          refine ⟨k1 + 1, by omega, by omega, ?_⟩
          rw [wadd _ k1 rfl (by omega), hw, hwk, List.append_assoc, ← hs1]
          try rfl
        · try simp only [nb, inr_t, inr_f, isEmpty_t] at hb3
          have hs1 : fm (pEl r k) (k1 + 1) = fm (pEl r k) k1 := by rw [fm_succ, pEl, if_pos (by omega), List.append_nil]
          refine W.skip ?_
          refine W.reg X [] [] [0, 1, 5, 6, 13, 14, 17, 18] [] rfl ⟨⟩ ?_
          refine ⟨k1 + 1, by omega, by omega, ?_⟩
          rw [wadd _ k1 rfl (by omega), hs1]
          try rfl
      · try simp only [nb, inr_t, inr_f, isEmpty_t] at hb2
        have hs : fm (fun a => fm (pEl r a) s.toNat) (k + 1) = fm (fun a => fm (pEl r a) s.toNat) k ++ fm (pEl r k) s.toNat := fm_succ _ _
        rw [show k1 = s.toNat by omega, ← hs]
        refine W.exit ?_
        refine W.reg X [] [] [0, 1, 5, 13, 14] [] rfl ⟨⟩ ?_
        refine ⟨k + 1, by omega, by omega, ?_⟩
        rw [wadd _ k rfl (by omega)]
        try rfl
    · try simp only [nb, inr_t, inr_f, isEmpty_t] at hb1
      refine W.exit ?_
      refine W.seq ?_
      refine W.reg X [] [] [4] [] rfl ⟨⟩ ?_
      refine W.ret ?_
      exact Fin.ret rfl ⟨by rw [pT, if_pos hk0, show s.toNat = k by omega], ⟨⟩⟩
theorem c_impl_ReadTransfers (c s r n : Int) : Sound ty Try.prog 30 [.a (.lit (.int .i64 c)), .a (.lit (.int .i64 s)), .a (.lit (.int .i64 r)), .a (.lit (.int .i64 n))] [.a (.sl .Trf (rT c s r n))] := by
  refine Sound.of X Try.call30 Try.func30 rfl rfl (by decide) Try.ntmps30 (by simp) ?_
  intro zb
  refine W.seq ?_
  refine W.reg X [] [] [0, 1, 2, 3] [] rfl ⟨⟩ ?_
  refine W.seq ?_
  refine W.seq ?_
  refine W.reg X [] [(15, ⟨false, [.a (.lit (.bool (ok31 c s r)))]⟩), (19, ⟨false, [.a (.lit (.bool (inr n 0 8)))]⟩)] [0, 1, 2, 3, 21] [] rfl (by (repeat' (first | with_reducible exact AllP.nil | with_reducible refine AllP.mk ?_ ?_ | with_reducible apply And.intro)) <;> skip; (iterate 2 (all_goals try (first | exact (c_impl_areSizes c s r) | exact fun _ => (c_impl_InRange n 0 8))))) ?_
  refine W.cond rfl (fun hb0 => ?_) (fun hb0 => ?_)
  · have hk0 : rOK c s r n = false := or_no1 hb0 (by simp only [rOK, ite_tt, ite_ff, gt_iff_lt, ge_iff_le, not_dlt, not_dle, bne_not, deq, decide_not, ne_eq, Bool.not_and, Bool.not_or, Bool.not_not, Bool.and_true, Bool.true_and, Bool.or_false, Bool.false_or, Int.toNat_natCast] <;> first | rfl | ac_rfl)
    refine W.seq ?_
    refine W.reg X [] [] [8] [] rfl ⟨⟩ ?_
    refine W.ret ?_
    exact Fin.ret rfl ⟨by rw [rT, hk0]; rfl, ⟨⟩⟩
  · have hk0 : rOK c s r n = true := or_yes hb0 (by simp only [rOK, ite_tt, ite_ff, gt_iff_lt, ge_iff_le, not_dlt, not_dle, bne_not, deq, decide_not, ne_eq, Bool.not_and, Bool.not_or, Bool.not_not, Bool.and_true, Bool.true_and, Bool.or_false, Bool.false_or, Int.toNat_natCast] <;> first | rfl | ac_rfl)
    have hok := ok31_b (rOK_1 hk0)
    have hn8 := rOK_2 hk0
    have hw2 : IntKind.i64.wrap (2 * n) = 2 * n := i64w (by omega)
    refine W.skip ?_
    refine W.seq ?_
    refine W.reg X [] [] [0, 1, 2, 3, 9] [] rfl (by (repeat' (first | exact True.intro | apply And.intro)) <;> first | exact rfl) ?_
    refine W.seq ?_
    refine W.seq ?_
    refine W.reg X [] [] [1, 2, 3, 9, 23, 24] [] rfl ⟨⟩ ?_
    refine W.block ?_
    refine W.loopO (fun k => k ≤ c.toNat) (fun k : Nat => [(24, .one (.a (.lit (.int .i64 k))))]) (fun k => [(22, .arr .Trf (fm (fun a => fm (rStep s r a) (2 * n).toNat) k))]) (fun k => c.toNat - k) 0 (fun k => rfl) (Nat.zero_le _) rfl ?_
    intro k hk
    have hle := r3_len (r := r) (s := s) (n := n) (k := k) (by omega) (by omega) (by omega)
    refine W.seq ?_
    refine W.reg X [] [] [1, 2, 3, 9, 23, 24, 25] [] rfl ⟨⟩ ?_
    refine W.seq ?_
    refine W.cond rfl (fun hb1 => ?_) (fun hb1 => ?_)
    · try simp only [nb, inr_t, inr_f, isEmpty_t] at hb1
      refine W.skip ?_
      refine W.seq ?_
      refine W.block ?_
      refine W.seq ?_
      refine W.reg X [] [] [1, 2, 3, 9, 10, 23, 24] [] rfl ⟨⟩ ?_
      refine W.seq ?_
      refine W.reg X [] [] [1, 2, 3, 9, 10, 23, 24, 28, 29] [] rfl ⟨⟩ ?_
      refine W.block ?_
      refine W.loopO (fun k1 => k1 ≤ (2 * n).toNat) (fun k1 : Nat => [(29, .one (.a (.lit (.int .i64 k1))))]) (fun k1 => [(22, .arr .Trf (fm (fun a => fm (rStep s r a) (2 * n).toNat) k ++ fm (rStep s r k) k1))]) (fun k1 => (2 * n).toNat - k1) 0 (fun k1 => rfl) (Nat.zero_le _) (by simp [fm_zero]) ?_
      intro k1 hk1
      have hle1 := r2_len (r := r) (s := s) (by omega) k (k := k1) (by omega)
      refine W.seq ?_
      refine W.reg X [] [] [1, 2, 3, 9, 10, 23, 24, 28, 29, 30] [] rfl ⟨⟩ ?_
      refine W.seq ?_
      refine W.cond rfl (fun hb2 => ?_) (fun hb2 => ?_)
      · try simp only [nb, inr_t, inr_f, isEmpty_t] at hb2
        rw [hw2] at hb2
        refine W.skip ?_
        refine W.seq ?_
        refine W.block ?_
        refine W.seq ?_
        refine W.reg X [] [] [1, 2, 3, 9, 10, 23, 24, 28, 29, 31, 32] [] rfl ⟨⟩ ?_
        refine W.block ?_
        refine W.loopO (fun k2 => k2 ≤ s.toNat) (fun k2 : Nat => [(32, .one (.a (.lit (.int .i64 k2))))]) (fun k2 => [(22, .arr .Trf (fm (fun a => fm (rStep s r a) (2 * n).toNat) k ++ fm (rStep s r k) k1 ++ fm (rEl r k) k2))]) (fun k2 => s.toNat - k2) 0 (fun k2 => rfl) (Nat.zero_le _) (by simp [fm_zero]) ?_
        intro k2 hk2
        have hle2 := r1_len (r := r) (s := s) (by omega) k (k := k2) hk2
        refine W.seq ?_
        refine W.reg X [] [] [1, 2, 3, 9, 10, 23, 24, 28, 29, 31, 32, 33] [] rfl ⟨⟩ ?_
        refine W.seq ?_
        refine W.cond rfl (fun hb3 => ?_) (fun hb3 => ?_)
        · try simp only [nb, inr_t, inr_f, isEmpty_t] at hb3
          have hw : IntKind.i64.wrap (100 + (k2 : Int)) = 100 + (k2 : Int) := i64w (by omega)
          have hs2 : fm (rEl r k) (k2 + 1) = fm (rEl r k) k2 ++ [⟨(k : Int), 100 + (k2 : Int), selSize r⟩, ⟨100 + (k2 : Int), (k : Int), 24⟩] := fm_succ _ _
          refine W.skip ?_
          refine W.seq ?_
          refine W.block ?_
          refine W.seq ?_
          refine W.reg X [] [] [1, 2, 3, 9, 10, 11, 23, 24, 28, 29, 31, 32] [] rfl ⟨⟩ ?_
          refine W.reg X [(47, 22)] [(40, ⟨false, [.a (.lit (.int .i64 (selSize r)))]⟩)] [1, 2, 3, 9, 10, 23, 24, 28, 29, 31, 32] [] rfl (by (repeat' (first | with_reducible exact AllP.nil | with_reducible refine AllP.mk ?_ ?_ | with_reducible apply And.intro)) <;> skip; (iterate 1 (all_goals try (first | exact (c_impl_SelectionSize r)))); all_goals (first | exact rfl | exact ⟨rfl, El_all _ (by decide)⟩ | (simp only [byt, maxLen, lens]; omega))) ?_
          refine W.reg X [] [] [1, 2, 3, 9, 10, 23, 24, 28, 29, 31, 32] [] rfl ⟨⟩ ?_
          refine ⟨k2 + 1, by omega, by omega, ?_⟩
          rw [wadd _ k2 rfl (by omega), hw, List.append_assoc, ← hs2]
          try rfl
        · try simp only [nb, inr_t, inr_f, isEmpty_t] at hb3
          have hs1 : fm (rStep s r k) (k1 + 1) = fm (rStep s r k) k1 ++ fm (rEl r k) s.toNat := fm_succ _ _
          rw [show k2 = s.toNat by omega, List.append_assoc, ← hs1]
          refine W.exit ?_
          refine W.reg X [] [] [1, 2, 3, 9, 10, 23, 24, 28, 29] [] rfl ⟨⟩ ?_
          refine ⟨k1 + 1, by omega, by omega, ?_⟩
          rw [wadd _ k1 rfl (by omega)]
          try rfl
      · try simp only [nb, inr_t, inr_f, isEmpty_t] at hb2
        rw [hw2] at hb2
        have hs : fm (fun a => fm (rStep s r a) (2 * n).toNat) (k + 1) = fm (fun a => fm (rStep s r a) (2 * n).toNat) k ++ fm (rStep s r k) (2 * n).toNat := fm_succ _ _
        rw [show k1 = (2 * n).toNat by omega, ← hs]
        refine W.exit ?_
        refine W.reg X [] [] [1, 2, 3, 9, 23, 24] [] rfl ⟨⟩ ?_
        refine ⟨k + 1, by omega, by omega, ?_⟩
        rw [wadd _ k rfl (by omega)]
        try rfl
    · try simp only [nb, inr_t, inr_f, isEmpty_t] at hb1
      refine W.exit ?_
      refine W.seq ?_
      refine W.reg X [] [] [8] [] rfl ⟨⟩ ?_
      refine W.ret ?_
      exact Fin.ret rfl ⟨by rw [rT, if_pos hk0, show c.toNat = k by omega], ⟨⟩⟩
theorem c_impl_RoundTransfers (x : Wld) : Sound ty Try.prog 8 [.agg (dec_Wld x)] [.a (.sl .Trf (rdT x))] := by
  refine Sound.of X Try.call8 Try.func8 rfl rfl (by decide) Try.ntmps8 (by simp) ?_
  intro zb
  have hwl := wT_len (x.devices.length : Int) (x.servers.length : Int) x.rows
  have hpl := pT_len (x.servers.length : Int) x.rows
  have hrl := rT_len (x.devices.length : Int) (x.servers.length : Int) x.rows 1
  refine W.seq ?_
  refine W.reg X [] [] [1] [] rfl ⟨⟩ ?_
  refine W.seq ?_
  refine W.draw X [] [] [1, 3, 4] [] 8 MO (by kernel_rfl) rfl ⟨⟩ ?_
  refine W.seq ?_
  refine W.draw X [] [(15, ⟨true, [.a (.sl .Trf (wT (x.devices.length : Int) (x.servers.length : Int) x.rows))]⟩), (19, ⟨true, [.a (.sl .Trf (pT (x.servers.length : Int) x.rows))]⟩), (24, ⟨true, [.a (.sl .Trf (rT (x.devices.length : Int) (x.servers.length : Int) x.rows 1))]⟩), (26, ⟨true, [.a (.sl .Trf [wT (x.devices.length : Int) (x.servers.length : Int) x.rows, pT (x.servers.length : Int) x.rows, rT (x.devices.length : Int) (x.servers.length : Int) x.rows 1].flatten)]⟩)] [2] [] 14 MO (by kernel_rfl) rfl (by (repeat' (first | with_reducible exact AllP.nil | with_reducible refine AllP.mk ?_ ?_ | with_reducible apply And.intro)) <;> skip; (iterate 4 (all_goals try (first | exact (c_impl_WriteTransfers (x.devices.length : Int) (x.servers.length : Int) x.rows) | exact (c_impl_PublishTransfers (x.servers.length : Int) x.rows) | exact (c_impl_ReadTransfers (x.devices.length : Int) (x.servers.length : Int) x.rows 1) | exact (c_slices_Concat_impl_Transfer_impl_Transfer [wT (x.devices.length : Int) (x.servers.length : Int) x.rows, pT (x.servers.length : Int) x.rows, rT (x.devices.length : Int) (x.servers.length : Int) x.rows 1] (by simp) (by simp; omega))))); all_goals (first | exact rfl)) ?_
  refine W.ret ?_
  exact Fin.ret rfl ⟨by simp [rdT], ⟨⟩⟩
theorem c_spec_l31Ok (c s r : Int) : Sound ty Try.prog 50 [.a (.lit (.int .i64 c)), .a (.lit (.int .i64 s)), .a (.lit (.int .i64 r))] [.a (.lit (.bool (ok31 c s r)))] := by
  refine Sound.of X Try.call50 Try.func50 rfl rfl (by decide) Try.ntmps50 (by simp) ?_
  intro zb
  refine W.seq ?_
  refine W.reg X [] [] [0, 1, 2] [] rfl ⟨⟩ ?_
  refine W.seq ?_
  refine W.reg X [] [(8, ⟨false, [.a (.lit (.bool (inr c 0 8)))]⟩), (11, ⟨false, [.a (.lit (.bool (srvCnt s)))]⟩), (15, ⟨false, [.a (.lit (.bool (inr r 1 64)))]⟩)] [6] [] rfl (by (repeat' (first | with_reducible exact AllP.nil | with_reducible refine AllP.mk ?_ ?_ | with_reducible apply And.intro)) <;> skip; (iterate 3 (all_goals try (first | exact (c_spec_l1In c 0 8) | exact fun _ => (c_spec_l7Count s) | exact fun _ => (c_spec_l1In r 1 64))))) ?_
  refine W.ret ?_
  exact Fin.ret rfl ⟨(congrArg Value.bool (by simp only [ok31, ite_tt, ite_ff, gt_iff_lt, ge_iff_le, not_dlt, not_dle, bne_not, deq, decide_not, ne_eq, Bool.not_and, Bool.not_or, Bool.not_not, Bool.and_true, Bool.true_and, Bool.or_false, Bool.false_or, Int.toNat_natCast] <;> first | rfl | ac_rfl)), ⟨⟩⟩
theorem c_spec_ShareSize (r : Int) : Sound ty Try.prog 51 [.a (.lit (.int .i64 r))] [.a (.lit (.int .i64 (shSize r)))] := by
  refine Sound.of X Try.call51 Try.func51 rfl rfl (by decide) Try.ntmps51 (by simp) ?_
  intro zb
  refine W.seq ?_
  refine W.reg X [] [] [0] [] rfl ⟨⟩ ?_
  refine W.seq ?_
  refine W.seq ?_
  refine W.reg X [] [(4, ⟨false, [.a (.lit (.bool (inr r 1 64)))]⟩)] [0, 5] [] rfl (by (repeat' (first | with_reducible exact AllP.nil | with_reducible refine AllP.mk ?_ ?_ | with_reducible apply And.intro)) <;> skip; (iterate 1 (all_goals try (first | exact (c_spec_l1In r 1 64))))) ?_
  refine W.cond rfl (fun hb0 => ?_) (fun hb0 => ?_)
  · try simp only [nb, inr_t, inr_f, isEmpty_t] at hb0
    refine W.seq ?_
    refine W.reg X [] [] [2] [] rfl ⟨⟩ ?_
    refine W.ret ?_
    exact Fin.ret rfl ⟨by rw [shSize, if_neg (by omega)], ⟨⟩⟩
  · try simp only [nb, inr_t, inr_f, isEmpty_t] at hb0
    refine W.skip ?_
    refine W.seq ?_
    refine W.reg X [] [] [2] [] rfl ⟨⟩ ?_
    refine W.ret ?_
    exact Fin.ret rfl ⟨by rw [shSize, if_pos (by omega), i64w (by omega)], ⟨⟩⟩
theorem c_spec_CeilDiv (a : Int) (ha : 0 ≤ a ∧ a ≤ 1000000) : Sound ty Try.prog 85 [.a (.lit (.int .i64 a)), .a (.lit (.int .i64 8))] [.a (.lit (.int .i64 (ceilD a)))] := by
  refine Sound.of X Try.call85 Try.func85 rfl rfl (by decide) Try.ntmps85 (by simp) ?_
  intro zb
  refine W.seq ?_
  refine W.reg X [] [] [0, 1] [] rfl ⟨⟩ ?_
  refine W.seq ?_
  refine W.seq ?_
  refine W.reg X [] [(6, ⟨false, [.a (.lit (.bool (inr a 0 1000000000000)))]⟩), (10, ⟨false, [.a (.lit (.bool (inr 8 1 1000000000000)))]⟩)] [0, 1, 12] [] rfl (by (repeat' (first | with_reducible exact AllP.nil | with_reducible refine AllP.mk ?_ ?_ | with_reducible apply And.intro)) <;> skip; (iterate 2 (all_goals try (first | exact (c_spec_l1In a 0 1000000000000) | exact fun _ => (c_spec_l1In 8 1 1000000000000))))) ?_
  refine W.cond rfl (fun hb0 => ?_) (fun hb0 => ?_)
  · try simp only [nb] at hb0
    have hz : inr a 0 1000000000000 = true := by rw [inr_t]; omega
    rw [hz] at hb0
    exact absurd hb0 (by decide)
  · skip
    refine W.skip ?_
    refine W.seq ?_
    refine W.reg X [] [] [4] [] rfl (by (repeat' (first | exact True.intro | apply And.intro)) <;> first | (intros; omega)) ?_
    refine W.ret ?_
    exact Fin.ret rfl ⟨by rw [ceilD, i64w (a := a + 8) (by omega), i64w (a := a + 8 - 1) (by omega), tdiv_pos (by omega), i64w (by omega)]; congr 3; omega, ⟨⟩⟩
theorem c_spec_SelectionSize (r : Int) : Sound ty Try.prog 52 [.a (.lit (.int .i64 r))] [.a (.lit (.int .i64 (selSize r)))] := by
  refine Sound.of X Try.call52 Try.func52 rfl rfl (by decide) Try.ntmps52 (by simp) ?_
  intro zb
  refine W.seq ?_
  refine W.reg X [] [] [0] [] rfl ⟨⟩ ?_
  refine W.seq ?_
  refine W.seq ?_
  refine W.reg X [] [(4, ⟨false, [.a (.lit (.bool (inr r 1 64)))]⟩)] [0, 5] [] rfl (by (repeat' (first | with_reducible exact AllP.nil | with_reducible refine AllP.mk ?_ ?_ | with_reducible apply And.intro)) <;> skip; (iterate 1 (all_goals try (first | exact (c_spec_l1In r 1 64))))) ?_
  refine W.cond rfl (fun hb0 => ?_) (fun hb0 => ?_)
  · try simp only [nb, inr_t, inr_f, isEmpty_t] at hb0
    refine W.seq ?_
    refine W.reg X [] [] [2] [] rfl ⟨⟩ ?_
    refine W.ret ?_
    exact Fin.ret rfl ⟨by rw [selSize, if_neg (by omega)], ⟨⟩⟩
  · try simp only [nb, inr_t, inr_f, isEmpty_t] at hb0
    refine W.skip ?_
    refine W.seq ?_
    refine W.reg X [] [(7, ⟨false, [.a (.lit (.int .i64 (ceilD r)))]⟩)] [2] [] rfl (by (repeat' (first | with_reducible exact AllP.nil | with_reducible refine AllP.mk ?_ ?_ | with_reducible apply And.intro)) <;> skip; (iterate 1 (all_goals try (first | exact (c_spec_CeilDiv r (by first | assumption | omega | (simp; done) | (simp; omega))))))) ?_
    refine W.ret ?_
    exact Fin.ret rfl ⟨by rw [selSize, if_pos (by omega), i64w (by unfold ceilD; omega)]; rfl, ⟨⟩⟩
theorem c_spec_WriteTransfers (c s r : Int) : Sound ty Try.prog 20 [.a (.lit (.int .i64 c)), .a (.lit (.int .i64 s)), .a (.lit (.int .i64 r))] [.a (.sl .Trf (wT c s r))] := by
  refine Sound.of X Try.call20 Try.func20 rfl rfl (by decide) Try.ntmps20 (by simp) ?_
  intro zb
  refine W.seq ?_
  refine W.reg X [] [] [0, 1, 2] [] rfl ⟨⟩ ?_
  refine W.seq ?_
  refine W.reg X [] [] [0, 1, 2, 7] [] rfl (by (repeat' (first | exact True.intro | apply And.intro)) <;> first | exact rfl) ?_
  refine W.seq ?_
  refine W.seq ?_
  refine W.reg X [] [] [0, 1, 2, 7, 8] [] rfl ⟨⟩ ?_
  refine W.block ?_
  refine W.loopO (fun k => k ≤ c.toNat ∧ (k = 0 ∨ ok31 c s r = true)) (fun k : Nat => [(8, .one (.a (.lit (.int .i64 k))))]) (fun k => [(10, .arr .Trf (fm (fun a => fm (wEl r a) s.toNat) k))]) (fun k => c.toNat - k) 0 (fun k => rfl) ⟨Nat.zero_le _, Or.inl rfl⟩ rfl ?_
  rintro k ⟨hk, hks⟩
  refine W.seq ?_
  refine W.seq ?_
  refine W.reg X [] [(18, ⟨false, [.a (.lit (.bool (ok31 c s r)))]⟩)] [0, 1, 2, 7, 8, 19] [] rfl (by (repeat' (first | with_reducible exact AllP.nil | with_reducible refine AllP.mk ?_ ?_ | with_reducible apply And.intro)) <;> skip; (iterate 1 (all_goals try (first | exact fun _ => (c_spec_l31Ok c s r))))) ?_
  refine W.cond rfl (fun hb0 => ?_) (fun hb0 => ?_)
  · have hq : (decide ((k : Int) < c) && ok31 c s r) = true := and_yes0 hb0 (by simp only [ite_tt, ite_ff, gt_iff_lt, ge_iff_le, not_dlt, not_dle, bne_not, deq, decide_not, ne_eq, Bool.not_and, Bool.not_or, Bool.not_not, Bool.and_true, Bool.true_and, Bool.or_false, Bool.false_or, Int.toNat_natCast] <;> first | rfl | ac_rfl)
    simp only [Bool.and_eq_true, decide_eq_true_eq] at hq
    have hk0 := hq.2
    have hok := ok31_b hk0
    have hle := w2_len (r := r) (s := s) (k := k) (by omega) (by omega)
    refine W.skip ?_
    refine W.seq ?_
    refine W.block ?_
    refine W.seq ?_
    refine W.reg X [] [] [0, 1, 2, 7, 8, 9] [] rfl ⟨⟩ ?_
    refine W.block ?_
    refine W.loopO (fun k1 => k1 ≤ s.toNat) (fun k1 : Nat => [(9, .one (.a (.lit (.int .i64 k1))))]) (fun k1 => [(10, .arr .Trf (fm (fun a => fm (wEl r a) s.toNat) k ++ fm (wEl r k) k1))]) (fun k1 => s.toNat - k1) 0 (fun k1 => rfl) (Nat.zero_le _) (by simp [fm_zero]) ?_
    intro k1 hk1
    have hle1 := w1_len (r := r) (s := s) (by omega) k hk1
    refine W.seq ?_
    refine W.seq ?_
    refine W.reg X [] [] [0, 1, 2, 7, 8, 9, 24] [] rfl ⟨⟩ ?_
    refine W.cond rfl (fun hb1 => ?_) (fun hb1 => ?_)
    · try simp only [nb, inr_t, inr_f, isEmpty_t] at hb1
      have hw : IntKind.i64.wrap (100 + (k1 : Int)) = 100 + (k1 : Int) := i64w (by omega)
      have hs1 : fm (wEl r k) (k1 + 1) = fm (wEl r k) k1 ++ [⟨(k : Int), 100 + (k1 : Int), shSize r⟩] := fm_succ _ _
      refine W.skip ?_
      refine W.seq ?_
      refine W.block ?_
      refine W.reg X [(35, 10)] [(32, ⟨false, [.a (.lit (.int .i64 (shSize r)))]⟩)] [0, 1, 2, 7, 8, 9] [] rfl (by (repeat' (first | with_reducible exact AllP.nil | with_reducible refine AllP.mk ?_ ?_ | with_reducible apply And.intro)) <;> skip; (iterate 1 (all_goals try (first | exact (c_spec_ShareSize r)))); all_goals (first | exact rfl | exact ⟨rfl, El_all _ (by decide)⟩ | (simp only [byt, maxLen, lens]; omega))) ?_
      refine W.reg X [] [] [0, 1, 2, 7, 8, 9] [] rfl ⟨⟩ ?_
      refine ⟨k1 + 1, by omega, by omega, ?_⟩
      rw [wadd _ k1 rfl (by omega), hw, List.append_assoc, ← hs1]
      try rfl
    · try simp only [nb, inr_t, inr_f, isEmpty_t] at hb1
      have hs : fm (fun a => fm (wEl r a) s.toNat) (k + 1) = fm (fun a => fm (wEl r a) s.toNat) k ++ fm (wEl r k) s.toNat := fm_succ _ _
      rw [show k1 = s.toNat by omega, ← hs]
      refine W.exit ?_
      refine W.reg X [] [] [0, 1, 2, 7, 8] [] rfl ⟨⟩ ?_
      refine ⟨k + 1, ⟨by omega, Or.inr hk0⟩, by omega, ?_⟩
      rw [wadd _ k rfl (by omega)]
      try rfl
  · have hq : (decide ((k : Int) < c) && ok31 c s r) = false := and_no0 hb0 (by simp only [ite_tt, ite_ff, gt_iff_lt, ge_iff_le, not_dlt, not_dle, bne_not, deq, decide_not, ne_eq, Bool.not_and, Bool.not_or, Bool.not_not, Bool.and_true, Bool.true_and, Bool.or_false, Bool.false_or, Int.toNat_natCast] <;> first | rfl | ac_rfl)
    refine W.exit ?_
    refine W.seq ?_
    refine W.reg X [] [] [6] [] rfl ⟨⟩ ?_
    refine W.ret ?_
    exact Fin.ret rfl ⟨wT_done hk hks hq, ⟨⟩⟩
theorem c_spec_PublishTransfers (s r : Int) : Sound ty Try.prog 21 [.a (.lit (.int .i64 s)), .a (.lit (.int .i64 r))] [.a (.sl .Trf (pT s r))] := by
  refine Sound.of X Try.call21 Try.func21 rfl rfl (by decide) Try.ntmps21 (by simp) ?_
  intro zb
  refine W.seq ?_
  refine W.reg X [] [] [0, 1] [] rfl ⟨⟩ ?_
  refine W.seq ?_
  refine W.reg X [] [] [0, 1, 5] [] rfl (by (repeat' (first | exact True.intro | apply And.intro)) <;> first | exact rfl) ?_
  refine W.seq ?_
  refine W.seq ?_
  refine W.reg X [] [] [0, 1, 5, 6] [] rfl ⟨⟩ ?_
  refine W.block ?_
  refine W.loopO (fun k => k ≤ s.toNat ∧ (k = 0 ∨ ok31 0 s r = true)) (fun k : Nat => [(6, .one (.a (.lit (.int .i64 k))))]) (fun k => [(8, .arr .Trf (fm (fun a => fm (pEl r a) s.toNat) k))]) (fun k => s.toNat - k) 0 (fun k => rfl) ⟨Nat.zero_le _, Or.inl rfl⟩ rfl ?_
  rintro k ⟨hk, hks⟩
  refine W.seq ?_
  refine W.seq ?_
  refine W.reg X [] [(15, ⟨false, [.a (.lit (.bool (ok31 0 s r)))]⟩)] [0, 1, 5, 6, 16] [] rfl (by (repeat' (first | with_reducible exact AllP.nil | with_reducible refine AllP.mk ?_ ?_ | with_reducible apply And.intro)) <;> skip; (iterate 1 (all_goals try (first | exact fun _ => (c_spec_l31Ok 0 s r))))) ?_
  refine W.cond rfl (fun hb0 => ?_) (fun hb0 => ?_)
  · have hq : (decide ((k : Int) < s) && ok31 0 s r) = true := and_yes0 hb0 (by simp only [ite_tt, ite_ff, gt_iff_lt, ge_iff_le, not_dlt, not_dle, bne_not, deq, decide_not, ne_eq, Bool.not_and, Bool.not_or, Bool.not_not, Bool.and_true, Bool.true_and, Bool.or_false, Bool.false_or, Int.toNat_natCast] <;> first | rfl | ac_rfl)
    simp only [Bool.and_eq_true, decide_eq_true_eq] at hq
    have hk0 := hq.2
    have hok := ok31_b hk0
    have hle := p2_len (r := r) (s := s) (k := k) (by omega) hk
    refine W.skip ?_
    refine W.seq ?_
    refine W.block ?_
    refine W.seq ?_
    refine W.reg X [] [] [0, 1, 5, 6, 7] [] rfl ⟨⟩ ?_
    refine W.block ?_
    refine W.loopO (fun k1 => k1 ≤ s.toNat) (fun k1 : Nat => [(7, .one (.a (.lit (.int .i64 k1))))]) (fun k1 => [(8, .arr .Trf (fm (fun a => fm (pEl r a) s.toNat) k ++ fm (pEl r k) k1))]) (fun k1 => s.toNat - k1) 0 (fun k1 => rfl) (Nat.zero_le _) (by simp [fm_zero]) ?_
    intro k1 hk1
    have hle1 := p1_len (r := r) (s := s) (by omega) k hk1
    refine W.seq ?_
    refine W.seq ?_
    refine W.reg X [] [] [0, 1, 5, 6, 7, 21] [] rfl ⟨⟩ ?_
    refine W.cond rfl (fun hb1 => ?_) (fun hb1 => ?_)
    · try simp only [nb, inr_t, inr_f, isEmpty_t] at hb1
      refine W.skip ?_
      refine W.seq ?_
      refine W.block ?_
      refine W.seq ?_
      refine W.reg X [] [] [0, 1, 5, 6, 7, 26] [] rfl ⟨⟩ ?_
      refine W.cond rfl (fun hb2 => ?_) (fun hb2 => ?_)
      · try simp only [nb, inr_t, inr_f, isEmpty_t] at hb2
        have hw : IntKind.i64.wrap (100 + (k1 : Int)) = 100 + (k1 : Int) := i64w (by omega)
        have hwk : IntKind.i64.wrap (100 + (k : Int)) = 100 + (k : Int) := i64w (by omega)
        have hs1 : fm (pEl r k) (k1 + 1) = fm (pEl r k) k1 ++ [⟨100 + (k : Int), 100 + (k1 : Int), shSize r⟩] := by rw [fm_succ, pEl, if_neg (by omega)]
        refine W.reg X [(36, 8)] [(33, ⟨false, [.a (.lit (.int .i64 (shSize r)))]⟩)] [0, 1, 5, 6, 7] [] rfl (by (repeat' (first | with_reducible exact AllP.nil | with_reducible refine AllP.mk ?_ ?_ | with_reducible apply And.intro)) <;> skip; (iterate 1 (all_goals try (first | exact (c_spec_ShareSize r)))); all_goals (first | exact rfl | exact ⟨rfl, El_all _ (by decide)⟩ | (simp only [byt, maxLen, lens]; omega))) ?_
        refine W.reg X [] [] [0, 1, 5, 6, 7] [] rfl ⟨⟩ ?_
        refine ⟨k1 + 1, by omega, by omega, ?_⟩
        rw [wadd _ k1 rfl (by omega), hw, hwk, List.append_assoc, ← hs1]
        try rfl
      · try simp only [nb, inr_t, inr_f, isEmpty_t] at hb2
        have hs1 : fm (pEl r k) (k1 + 1) = fm (pEl r k) k1 := by rw [fm_succ, pEl, if_pos (by omega), List.append_nil]
        refine W.skip ?_
        refine W.reg X [] [] [0, 1, 5, 6, 7] [] rfl ⟨⟩ ?_
        refine ⟨k1 + 1, by omega, by omega, ?_⟩
        rw [wadd _ k1 rfl (by omega), hs1]
        try rfl
    · try simp only [nb, inr_t, inr_f, isEmpty_t] at hb1
      have hs : fm (fun a => fm (pEl r a) s.toNat) (k + 1) = fm (fun a => fm (pEl r a) s.toNat) k ++ fm (pEl r k) s.toNat := fm_succ _ _
      rw [show k1 = s.toNat by omega, ← hs]
      refine W.exit ?_
      refine W.reg X [] [] [0, 1, 5, 6] [] rfl ⟨⟩ ?_
      refine ⟨k + 1, ⟨by omega, Or.inr hk0⟩, by omega, ?_⟩
      rw [wadd _ k rfl (by omega)]
      try rfl
  · have hq : (decide ((k : Int) < s) && ok31 0 s r) = false := and_no0 hb0 (by simp only [ite_tt, ite_ff, gt_iff_lt, ge_iff_le, not_dlt, not_dle, bne_not, deq, decide_not, ne_eq, Bool.not_and, Bool.not_or, Bool.not_not, Bool.and_true, Bool.true_and, Bool.or_false, Bool.false_or, Int.toNat_natCast] <;> first | rfl | ac_rfl)
    refine W.exit ?_
    refine W.seq ?_
    refine W.reg X [] [] [4] [] rfl ⟨⟩ ?_
    refine W.ret ?_
    exact Fin.ret rfl ⟨pT_done hk hks hq, ⟨⟩⟩
theorem c_spec_ReadTransfers (c s r n : Int) : Sound ty Try.prog 22 [.a (.lit (.int .i64 c)), .a (.lit (.int .i64 s)), .a (.lit (.int .i64 r)), .a (.lit (.int .i64 n))] [.a (.sl .Trf (rT c s r n))] := by
  refine Sound.of X Try.call22 Try.func22 rfl rfl (by decide) Try.ntmps22 (by simp) ?_
  intro zb
  refine W.seq ?_
  refine W.reg X [] [] [0, 1, 2, 3] [] rfl ⟨⟩ ?_
  refine W.seq ?_
  refine W.reg X [] [] [0, 1, 2, 3, 9] [] rfl (by (repeat' (first | exact True.intro | apply And.intro)) <;> first | exact rfl) ?_
  refine W.seq ?_
  refine W.seq ?_
  refine W.reg X [] [(17, ⟨false, [.a (.lit (.bool (ok31 c s r)))]⟩), (21, ⟨false, [.a (.lit (.bool (inr n 0 8)))]⟩)] [0, 1, 2, 3, 9, 23] [] rfl (by (repeat' (first | with_reducible exact AllP.nil | with_reducible refine AllP.mk ?_ ?_ | with_reducible apply And.intro)) <;> skip; (iterate 2 (all_goals try (first | exact (c_spec_l31Ok c s r) | exact fun _ => (c_spec_l1In n 0 8))))) ?_
  refine W.cond rfl (fun hb0 => ?_) (fun hb0 => ?_)
  · have hk0 : rOK c s r n = false := or_no1 hb0 (by simp only [rOK, ite_tt, ite_ff, gt_iff_lt, ge_iff_le, not_dlt, not_dle, bne_not, deq, decide_not, ne_eq, Bool.not_and, Bool.not_or, Bool.not_not, Bool.and_true, Bool.true_and, Bool.or_false, Bool.false_or, Int.toNat_natCast] <;> first | rfl | ac_rfl)
    refine W.seq ?_
    refine W.reg X [] [] [8] [] rfl ⟨⟩ ?_
    refine W.ret ?_
    exact Fin.ret rfl ⟨by rw [rT, hk0]; rfl, ⟨⟩⟩
  · have hk0 : rOK c s r n = true := or_yes hb0 (by simp only [rOK, ite_tt, ite_ff, gt_iff_lt, ge_iff_le, not_dlt, not_dle, bne_not, deq, decide_not, ne_eq, Bool.not_and, Bool.not_or, Bool.not_not, Bool.and_true, Bool.true_and, Bool.or_false, Bool.false_or, Int.toNat_natCast] <;> first | rfl | ac_rfl)
    have hok := ok31_b (rOK_1 hk0)
    have hn8 := rOK_2 hk0
    have hw2 : IntKind.i64.wrap (2 * n) = 2 * n := i64w (by omega)
    refine W.skip ?_
    refine W.seq ?_
    refine W.seq ?_
    refine W.reg X [] [] [0, 1, 2, 3, 9, 10] [] rfl ⟨⟩ ?_
    refine W.block ?_
    refine W.loopO (fun k => k ≤ c.toNat) (fun k : Nat => [(10, .one (.a (.lit (.int .i64 k))))]) (fun k => [(13, .arr .Trf (fm (fun a => fm (rStep s r a) (2 * n).toNat) k))]) (fun k => c.toNat - k) 0 (fun k => rfl) (Nat.zero_le _) rfl ?_
    intro k hk
    have hle := r3_len (r := r) (s := s) (n := n) (k := k) (by omega) (by omega) (by omega)
    refine W.seq ?_
    refine W.seq ?_
    refine W.reg X [] [] [0, 1, 2, 3, 9, 10, 27] [] rfl ⟨⟩ ?_
    refine W.cond rfl (fun hb1 => ?_) (fun hb1 => ?_)
    · try simp only [nb, inr_t, inr_f, isEmpty_t] at hb1
      refine W.skip ?_
      refine W.seq ?_
      refine W.block ?_
      refine W.seq ?_
      refine W.reg X [] [] [0, 1, 2, 3, 9, 10, 11] [] rfl ⟨⟩ ?_
      refine W.block ?_
      refine W.loopO (fun k1 => k1 ≤ (2 * n).toNat) (fun k1 : Nat => [(11, .one (.a (.lit (.int .i64 k1))))]) (fun k1 => [(13, .arr .Trf (fm (fun a => fm (rStep s r a) (2 * n).toNat) k ++ fm (rStep s r k) k1))]) (fun k1 => (2 * n).toNat - k1) 0 (fun k1 => rfl) (Nat.zero_le _) (by simp [fm_zero]) ?_
      intro k1 hk1
      have hle1 := r2_len (r := r) (s := s) (by omega) k (k := k1) (by omega)
      refine W.seq ?_
      refine W.seq ?_
      refine W.reg X [] [] [0, 1, 2, 3, 9, 10, 11, 33] [] rfl ⟨⟩ ?_
      refine W.cond rfl (fun hb2 => ?_) (fun hb2 => ?_)
      · try simp only [nb, inr_t, inr_f, isEmpty_t] at hb2
        rw [hw2] at hb2
        refine W.skip ?_
        refine W.seq ?_
        refine W.block ?_
        refine W.seq ?_
        refine W.reg X [] [] [0, 1, 2, 3, 9, 10, 11, 12] [] rfl ⟨⟩ ?_
        refine W.block ?_
        refine W.loopO (fun k2 => k2 ≤ s.toNat) (fun k2 : Nat => [(12, .one (.a (.lit (.int .i64 k2))))]) (fun k2 => [(13, .arr .Trf (fm (fun a => fm (rStep s r a) (2 * n).toNat) k ++ fm (rStep s r k) k1 ++ fm (rEl r k) k2))]) (fun k2 => s.toNat - k2) 0 (fun k2 => rfl) (Nat.zero_le _) (by simp [fm_zero]) ?_
        intro k2 hk2
        have hle2 := r1_len (r := r) (s := s) (by omega) k (k := k2) hk2
        refine W.seq ?_
        refine W.seq ?_
        refine W.reg X [] [] [0, 1, 2, 3, 9, 10, 11, 12, 38] [] rfl ⟨⟩ ?_
        refine W.cond rfl (fun hb3 => ?_) (fun hb3 => ?_)
        · try simp only [nb, inr_t, inr_f, isEmpty_t] at hb3
          have hw : IntKind.i64.wrap (100 + (k2 : Int)) = 100 + (k2 : Int) := i64w (by omega)
          have hs2 : fm (rEl r k) (k2 + 1) = fm (rEl r k) k2 ++ [⟨(k : Int), 100 + (k2 : Int), selSize r⟩, ⟨100 + (k2 : Int), (k : Int), 24⟩] := fm_succ _ _
          refine W.skip ?_
          refine W.seq ?_
          refine W.block ?_
          refine W.reg X [(53, 13)] [(46, ⟨false, [.a (.lit (.int .i64 (selSize r)))]⟩)] [0, 1, 2, 3, 9, 10, 11, 12] [] rfl (by (repeat' (first | with_reducible exact AllP.nil | with_reducible refine AllP.mk ?_ ?_ | with_reducible apply And.intro)) <;> skip; (iterate 1 (all_goals try (first | exact (c_spec_SelectionSize r)))); all_goals (first | exact rfl | exact ⟨rfl, El_all _ (by decide)⟩ | (simp only [byt, maxLen, lens]; omega))) ?_
          refine W.reg X [] [] [0, 1, 2, 3, 9, 10, 11, 12] [] rfl ⟨⟩ ?_
          refine ⟨k2 + 1, by omega, by omega, ?_⟩
          rw [wadd _ k2 rfl (by omega), hw, List.append_assoc, ← hs2]
          try rfl
        · try simp only [nb, inr_t, inr_f, isEmpty_t] at hb3
          have hs1 : fm (rStep s r k) (k1 + 1) = fm (rStep s r k) k1 ++ fm (rEl r k) s.toNat := fm_succ _ _
          rw [show k2 = s.toNat by omega, List.append_assoc, ← hs1]
          refine W.exit ?_
          refine W.reg X [] [] [0, 1, 2, 3, 9, 10, 11] [] rfl ⟨⟩ ?_
          refine ⟨k1 + 1, by omega, by omega, ?_⟩
          rw [wadd _ k1 rfl (by omega)]
          try rfl
      · try simp only [nb, inr_t, inr_f, isEmpty_t] at hb2
        rw [hw2] at hb2
        have hs : fm (fun a => fm (rStep s r a) (2 * n).toNat) (k + 1) = fm (fun a => fm (rStep s r a) (2 * n).toNat) k ++ fm (rStep s r k) (2 * n).toNat := fm_succ _ _
        rw [show k1 = (2 * n).toNat by omega, ← hs]
        refine W.exit ?_
        refine W.reg X [] [] [0, 1, 2, 3, 9, 10] [] rfl ⟨⟩ ?_
        refine ⟨k + 1, by omega, by omega, ?_⟩
        rw [wadd _ k rfl (by omega)]
        try rfl
    · try simp only [nb, inr_t, inr_f, isEmpty_t] at hb1
      refine W.exit ?_
      refine W.seq ?_
      refine W.reg X [] [] [8] [] rfl ⟨⟩ ?_
      refine W.ret ?_
      exact Fin.ret rfl ⟨by rw [rT, if_pos hk0, show c.toNat = k by omega], ⟨⟩⟩
theorem c_spec_RoundTransfers (x : Wld) : Sound ty Try.prog 6 [.agg (dec_Wld x)] [.a (.sl .Trf (rdT x))] := by
  refine Sound.of X Try.call6 Try.func6 rfl rfl (by decide) Try.ntmps6 (by simp) ?_
  intro zb
  have hwl := wT_len (x.devices.length : Int) (x.servers.length : Int) x.rows
  have hpl := pT_len (x.servers.length : Int) x.rows
  have hrl := rT_len (x.devices.length : Int) (x.servers.length : Int) x.rows 1
  refine W.seq ?_
  refine W.reg X [] [] [1] [] rfl ⟨⟩ ?_
  refine W.seq ?_
  refine W.reg X [] [] [1, 3] [] rfl ⟨⟩ ?_
  refine W.seq ?_
  refine W.reg X [] [] [1, 3, 4] [] rfl ⟨⟩ ?_
  refine W.seq ?_
  refine W.drawK X [(20, 15), (26, 15)] [(15, ⟨true, [.a (.sl .Trf (wT (x.devices.length : Int) (x.servers.length : Int) x.rows))]⟩), (19, ⟨true, [.a (.sl .Trf (pT (x.servers.length : Int) x.rows))]⟩), (25, ⟨true, [.a (.sl .Trf (rT (x.devices.length : Int) (x.servers.length : Int) x.rows 1))]⟩)] [2] [] 97791 (.ph 15871 (.br 15871 9 (.ph 16384 (.br 16384 15 (.last 65536) (.nil))) (.br 7679 9 (.ph 24576 (.br 24576 15 (.last 65536) (.nil))) (.br 3583 9 (.ph 28672 (.br 28672 15 (.last 65536) (.nil))) (.br 13823 9 (.ph 18432 (.br 18432 15 (.last 65536) (.nil))) (.br 5631 9 (.ph 26624 (.br 26624 15 (.last 65536) (.nil))) (.br 1535 9 (.ph 30720 (.br 30720 15 (.last 65536) (.nil))) (.br 14847 9 (.ph 17408 (.br 17408 15 (.last 65536) (.nil))) (.br 6655 9 (.ph 25600 (.br 25600 15 (.last 65536) (.nil))) (.br 2559 9 (.ph 29696 (.br 29696 15 (.last 65536) (.nil))) (.br 12799 9 (.ph 19456 (.br 19456 15 (.last 65536) (.nil))) (.br 4607 9 (.ph 27648 (.br 27648 15 (.last 65536) (.nil))) (.br 511 9 (.ph 31744 (.br 31744 15 (.last 65536) (.nil))) (.nil)))))))))))))) 11 MO (by kernel_rfl) rfl (by kernel_rfl) (by (repeat' (first | with_reducible exact AllP.nil | with_reducible refine AllP.mk ?_ ?_ | with_reducible apply And.intro)) <;> skip; (iterate 3 (all_goals try (first | exact (c_spec_WriteTransfers (x.devices.length : Int) (x.servers.length : Int) x.rows) | exact (c_spec_PublishTransfers (x.servers.length : Int) x.rows) | exact (c_spec_ReadTransfers (x.devices.length : Int) (x.servers.length : Int) x.rows 1)))); all_goals (first | exact rfl | (simp only [byt, maxLen, lens]; omega))) ?_
  refine W.ret ?_
  exact Fin.ret rfl ⟨rfl, ⟨⟩⟩
end Go.Proofs.Ytlocnjfgeifmnaa.G
namespace Go.Proofs.Ytlocnjfgeifmnaa.G
set_option linter.all false
open Go.RowKit L D
set_option maxRecDepth 100000
theorem rdT_mark (x : Wld) : mnl mne_Trf (rdT x) ≤ 100000 := by
  have h := mnl_lsz (C := 32) (sz := size_Trf) mne_le_Trf (rdT x)
  have h1 : ∀ l : List Trf, (l.map size_Trf).sum = 0 := by
    intro l
    induction l with
    | nil => rfl
    | cons y r ih => rw [List.map_cons, List.sum_cons, ih]; rfl
  have h2 : (rdT x).length ≤ 1072 := by
    unfold rdT
    have := wT_len x.devices.length x.servers.length x.rows
    have := pT_len x.servers.length x.rows
    have := rT_len x.devices.length x.servers.length x.rows 1
    simp only [List.length_append]; omega
  unfold lsz at h
  rw [h1] at h
  omega
theorem c_FnExactRoundTransfers (x0 : Wld) (h_x0 : (wf_Wld) x0) : Sound ty Try.prog 3 [.agg (dec_Wld x0)] [.a (.lit (.bool true))] := by
  refine Sound.of X Try.call3 Try.func3 rfl rfl (by decide) Try.ntmps3 (by simp) ?_
  intro zb
  refine W.seq ?_
  refine W.reg X [] [] [1] [] rfl ⟨⟩ ?_
  refine W.seq ?_
  refine W.reg X [] [] [1, 3] [] rfl ⟨⟩ ?_
  refine W.seq ?_
  refine W.reg X [] [(13, ⟨false, [.a (.lit (.int .i64 (szr (1048576) (size_Wld x0))))]⟩)] [1, 3] [] rfl ⟨c_szWorld x0 (1048576) (by omega) (by omega), ⟨⟩⟩ ?_
  refine W.seq ?_
  refine W.seq ?_
  refine W.reg X [] [] [1, 15] [] rfl ⟨⟩ ?_
  refine W.cond rfl (fun hb0 => ?_) (fun hb0 => ?_)
  · try simp only [nb] at hb0
    refine W.seq ?_
    refine W.reg X [] [] [2] [] rfl ⟨⟩ ?_
    refine W.ret ?_
    exact Fin.ret rfl ⟨rfl, ⟨⟩⟩
  · try simp only [nb] at hb0
    obtain ⟨e0, e0'⟩ := szr_pos hb0
    rw [e0]
    have hsz : size_Wld x0 ≤ 1048576 := by omega
    have hmx := mnv_le_Wld x0
    have hdev := dev_le hsz
    have hsrv := srv_le hsz
    have hr := rdT_mark x0
    refine W.skip ?_
    refine W.seq ?_
    refine W.reg X [(17, 225), (18, 250)] [(17, ⟨true, [.agg (dec_Wld x0)]⟩), (18, ⟨true, [.a (.sl .Trf (rdT x0))]⟩)] [1, 4] [] rfl ⟨c_spec_RoundTransfers x0, c_toWorld x0 (by omega), ⟨⟩⟩ ?_
    refine W.seq ?_
    refine W.reg X [(20, 275)] [(20, ⟨true, [.agg (dec_Wld x0)]⟩)] [1, 4, 5] [] rfl ⟨c_toWorld x0 (by omega), ⟨⟩⟩ ?_
    refine W.seq ?_
    refine W.reg X [(22, 300)] [(22, ⟨true, [.a (.sl .Trf (rdT x0))]⟩)] [1, 4, 5, 6] [] rfl ⟨c_impl_RoundTransfers x0, ⟨⟩⟩ ?_
    refine W.seq ?_
    refine W.seq ?_
    refine W.reg X [] [(25, ⟨false, [.a (.lit (.bool true))]⟩)] [1, 4, 5, 6, 26] [] rfl ⟨c_eqTransferS (rdT x0), ⟨⟩⟩ ?_
    refine W.cond rfl (fun hb1 => ?_) (fun hb1 => ?_)
    · exact absurd hb1 (by first | (simp; done) | (simp; omega))
    · clear hb1
      refine W.skip ?_
      refine W.seq ?_
      refine W.seq ?_
      refine W.draw X [(29, 325)] [(29, ⟨true, [.agg (dec_Wld x0)]⟩), (30, ⟨false, [.a (.lit (.bool true))]⟩)] [1, 4, 5, 6, 31] [] 5 MO (by kernel_rfl) rfl ⟨c_eqWorld x0, c_toWorld x0 (by omega), ⟨⟩⟩ ?_
      refine W.cond rfl (fun hb2 => ?_) (fun hb2 => ?_)
      · exact absurd hb2 (by first | (simp; done) | (simp; omega))
      · clear hb2
        refine W.skip ?_
        refine W.seq ?_
        refine W.reg X [] [] [1, 4, 5, 6, 7] [] rfl ⟨⟩ ?_
        refine W.seq ?_
        refine W.reg X [] [(100034, ⟨false, [.a (.lit (.int .i64 (1 + (mnv_Wld x0 : Nat)))), .agg (dec_Wld (mkv_Wld (1) x0)), .a (.lit (.int .i64 (1)))]⟩)] [1, 4, 6, 7] [] rfl ⟨c_markWorld x0 (1) (by omega) (by omega), ⟨⟩⟩ ?_
        refine W.seq ?_
        refine W.seq ?_
        refine W.reg X [] [(40, ⟨false, [.a (.lit (.bool true))]⟩)] [1, 4, 6, 42] [] rfl ⟨fun _ => c_eqTransferS (rdT x0), ⟨⟩⟩ ?_
        refine W.cond rfl (fun hb3 => ?_) (fun hb3 => ?_)
        · exact absurd hb3 (by first | (simp; done) | (simp; omega))
        · clear hb3
          refine W.skip ?_
          refine W.seq ?_
          refine W.reg X [] [] [1, 4, 6, 8] [] rfl ⟨⟩ ?_
          refine W.seq ?_
          refine W.reg X [] [(100045, ⟨false, [.a (.lit (.int .i64 (1 + ((mnl mne_Trf) (rdT x0) : Nat)))), .a (.sl .Trf ((mkl mke_Trf mne_Trf) (1) (rdT x0))), .a (.lit (.int .i64 (1)))]⟩)] [1, 4, 6, 8] [] rfl ⟨c_markTransferS (rdT x0) (1) (by omega) (by omega), ⟨⟩⟩ ?_
          refine W.seq ?_
          refine W.reg X [] [] [1, 4, 6, 8, 9] [] rfl ⟨⟩ ?_
          refine W.seq ?_
          refine W.reg X [] [(48, ⟨false, [.a (.lit (.int .i64 (1 + ((mnl mne_Trf) (rdT x0) : Nat))))]⟩)] [1, 4, 6, 8, 9] [] rfl ⟨c_heldTransferS (rdT x0) (1) (by omega) (by omega), ⟨⟩⟩ ?_
          refine W.seq ?_
          refine W.seq ?_
          refine W.reg X [] [] [1, 4, 6, 8, 9, 50] [] rfl ⟨⟩ ?_
          refine W.cond rfl (fun hb4 => ?_) (fun hb4 => ?_)
          · exact absurd hb4 (by first | (simp; done) | (simp; omega))
          · clear hb4
            refine W.skip ?_
            refine W.seq ?_
            refine W.seq ?_
            refine W.reg X [] [] [1, 4, 6, 8, 53] [] rfl ⟨⟩ ?_
            refine W.cond rfl (fun hb5 => ?_) (fun hb5 => ?_)
            · exact absurd hb5 (by first | (simp; done) | (simp; omega))
            · clear hb5
              refine W.skip ?_
              refine W.seq ?_
              refine W.reg X [(55, 350), (56, 375)] [(55, ⟨true, [.agg (dec_Wld x0)]⟩), (56, ⟨true, [.a (.sl .Trf (rdT x0))]⟩)] [4, 6, 8, 10] [] rfl ⟨c_impl_RoundTransfers x0, c_toWorld x0 (by omega), ⟨⟩⟩ ?_
              refine W.seq ?_
              refine W.seq ?_
              refine W.reg X [] [(59, ⟨false, [.a (.lit (.bool true))]⟩)] [6, 8, 60] [] rfl ⟨c_eqTransferS (rdT x0), ⟨⟩⟩ ?_
              refine W.cond rfl (fun hb6 => ?_) (fun hb6 => ?_)
              · exact absurd hb6 (by first | (simp; done) | (simp; omega))
              · clear hb6
                refine W.skip ?_
                refine W.seq ?_
                refine W.reg X [] [] [6, 8, 9] [] rfl ⟨⟩ ?_
                refine W.seq ?_
                refine W.reg X [] [(63, ⟨false, [.a (.lit (.int .i64 (1 + ((mnl mne_Trf) (rdT x0) : Nat))))]⟩)] [8, 9] [] rfl ⟨c_heldTransferS (rdT x0) (1) (by omega) (by omega), ⟨⟩⟩ ?_
                refine W.seq ?_
                refine W.seq ?_
                refine W.reg X [] [] [8, 9, 65] [] rfl ⟨⟩ ?_
                refine W.cond rfl (fun hb7 => ?_) (fun hb7 => ?_)
                · exact absurd hb7 (by first | (simp; done) | (simp; omega))
                · clear hb7
                  refine W.skip ?_
                  refine W.seq ?_
                  refine W.seq ?_
                  refine W.reg X [] [] [68] [] rfl ⟨⟩ ?_
                  refine W.cond rfl (fun hb8 => ?_) (fun hb8 => ?_)
                  · exact absurd hb8 (by first | (simp; done) | (simp; omega))
                  · clear hb8
                    refine W.skip ?_
                    refine W.seq ?_
                    refine W.reg X [] [] [2] [] rfl ⟨⟩ ?_
                    refine W.ret ?_
                    exact Fin.ret rfl ⟨rfl, ⟨⟩⟩
end Go.Proofs.Ytlocnjfgeifmnaa.G
