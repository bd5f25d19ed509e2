/-
  FnExactFormatWorld, walked by the symbolic machine: it returns true.
-/
import Derived.Test.YtjknhnhcbadigaaDoorZFormatWorldM9
import Derived.Test.YtjknhnhcbadigaaDoorZFormatWorldM10
import Derived.Sort.Grow
namespace Go.Proofs.YtjknhnhcbadigaaDoor.G
set_option linter.all false
open Go.RowKit L D
theorem amb_tab {w : World} (h : Amb w) : Lib.TabIs Tryd.prog w "internal/strconv.uint64pow10" .u64 Lib.pow10Tab := by
  obtain ⟨e, k, h⟩ := h
  unfold Lib.TabIs World.var?
  rw [show Tryd.prog.globalNamed "internal/strconv.uint64pow10" = some 0 by kernel_rfl]
  simp only [Option.bind_some, h]
theorem grown_below (w : World) (k : Nat) (os : Array Go.Obj) : Below w.heap.size w (Sort.grow (w.drewN k) os) := by
  refine ⟨rfl, rfl, rfl, ?_, fun j hj => ?_⟩
  · show w.heap.size ≤ (w.heap ++ os).size
    rw [Array.size_append]; omega
  · show (w.heap ++ os)[j]? = w.heap[j]?
    rw [Array.getElem?_append_left hj]
theorem c_strconv_Itoa (n : Int) (h : -9223372036854775808 ≤ n ∧ n ≤ 9223372036854775807) : Sound ty Tryd.prog 67 [.a (.lit (.int .i64 n))] [.a (.lit (.string (str8 (Lib.itoa n))))] := by
  refine ⟨Tryd.call67, ?_⟩
  intro w us hA ha
  match us, ha with
  | [u], ⟨h1, _⟩ =>
    obtain ⟨_, rfl, _, _⟩ := h1
    refine (Tryd.strconv_Itoa n h.1 h.2 w (amb_tab hA)).mono ?_
    rintro e w' ⟨rfl, k, os, rfl⟩
    exact ⟨_, [], rfl, grown_below w k os, Own.nil _ _, ⟨[], [], ⟨rfl, rfl, rfl⟩, rfl, rfl⟩⟩
/-- The digits of a number that is not 0. -/
def dd (x : Int) : List UInt8 := if x = 0 then [] else Lib.decDigits x.natAbs
theorem dd_step {x : Int} (hx : x ≠ 0) : dd x = dd (x.tdiv 10) ++ [UInt8.ofNat (48 + x.natAbs % 10)] := by
  have e : (x.tdiv 10).natAbs = x.natAbs / 10 := by rw [Int.natAbs_tdiv]; rfl
  have h0 : x.tdiv 10 = 0 ↔ x.natAbs < 10 := by
    rw [← Int.natAbs_eq_zero, e]; omega
  unfold dd
  rw [if_neg hx]
  by_cases hs : x.natAbs < 10
  · rw [if_pos (h0.2 hs), Lib.decDigits, dif_pos hs, List.nil_append, Nat.mod_eq_of_lt hs]
  · rw [if_neg (fun h => hs (h0.1 h)), e, Lib.decDigits, dif_neg hs]
theorem dd_len : ∀ (n : Nat) (x : Int), x.natAbs ≤ n → x.natAbs < 10 ^ 20 → (dd x).length ≤ 20 := by
  intro n x _ hx
  have key : ∀ (k u : Nat), u < 10 ^ (k + 1) → (Lib.decDigits u).length ≤ k + 1 := by
    intro k
    induction k with
    | zero => intro u hu; rw [Lib.decDigits, dif_pos (by omega)]; simp
    | succ k ih =>
      intro u hu
      rw [Lib.decDigits]
      split
      · simp
      · rw [List.length_append]
        have := ih (u / 10) (by rw [Nat.pow_succ] at hu; omega)
        simp only [List.length_cons, List.length_nil]; omega
  unfold dd
  split
  · simp
  · exact key 19 _ hx
theorem itoa_dd {n : Int} (h : n ≠ 0) : Lib.itoa n = (if n < 0 then [45] else []) ++ dd n := by
  unfold Lib.itoa dd
  rw [if_neg h]
  split
  · rfl
  · rw [List.nil_append]; congr 1; omega
theorem itoa_zero : Lib.itoa 0 = [48] := by
  unfold Lib.itoa; rw [if_neg (by decide), Lib.decDigits, dif_pos (by decide)]; rfl
theorem itoa_len {n : Int} (h : -9223372036854775808 ≤ n ∧ n ≤ 9223372036854775807) : (Lib.itoa n).length ≤ 21 := by
  by_cases h0 : n = 0
  · subst h0; rw [itoa_zero]; decide
  · rw [itoa_dd h0, List.length_append]
    have := dd_len n.natAbs n (Nat.le_refl _) (by omega)
    split <;> simp <;> omega
/-- A digit's byte, as the reference makes it. -/
theorem digit_pos {x : Int} (h : -9223372036854775808 ≤ x ∧ x ≤ 9223372036854775807) (hd : ¬ x.tmod 10 < 0) : UInt8.ofNat (IntKind.u8.wrap (IntKind.i64.wrap (48 + x.tmod 10))).toNat = UInt8.ofNat (48 + x.natAbs % 10) := by
  have h1 : (x.tmod 10).natAbs = x.natAbs % 10 := by rw [Int.natAbs_tmod]; rfl
  have hb : x.tmod 10 = ((x.natAbs % 10 : Nat) : Int) := by omega
  have hlt : x.natAbs % 10 < 10 := Nat.mod_lt _ (by decide)
  rw [hb, i64w (by omega)]
  rw [u8w_eq]
  congr 1; omega
theorem digit_neg {x : Int} (h : -9223372036854775808 ≤ x ∧ x ≤ 9223372036854775807) (hd : x.tmod 10 < 0) : UInt8.ofNat (IntKind.u8.wrap (IntKind.i64.wrap (48 + IntKind.i64.wrap (0 - x.tmod 10)))).toNat = UInt8.ofNat (48 + x.natAbs % 10) := by
  have h1 : (x.tmod 10).natAbs = x.natAbs % 10 := by rw [Int.natAbs_tmod]; rfl
  have hb : 0 - x.tmod 10 = ((x.natAbs % 10 : Nat) : Int) := by omega
  have hlt : x.natAbs % 10 < 10 := Nat.mod_lt _ (by decide)
  rw [hb, i64w (a := ((x.natAbs % 10 : Nat) : Int)) (by omega), i64w (by omega)]
  rw [u8w_eq]
  congr 1; omega
theorem cat_ok (a b : List UInt8) (h : a.length + b.length ≤ 1099511627776) : (((str8 a).size + (str8 b).size : Nat) : Int) ≤ IntKind.i64.max := by
  rw [str8_size, str8_size, max64]; omega
theorem c1_sz (c : UInt8) : (⟨#[c]⟩ : ByteArray).size = 1 := rfl
theorem itoa_sz {n : Int} (h : -9223372036854775808 ≤ n ∧ n ≤ 9223372036854775807) : (str8 (Lib.itoa n)).size ≤ 21 := itoa_len h
/-- honest, drops, alters, lies. -/
def names : List (List UInt8) := [[104, 111, 110, 101, 115, 116], [100, 114, 111, 112, 115], [97, 108, 116, 101, 114, 115], [108, 105, 101, 115]]
end Go.Proofs.YtjknhnhcbadigaaDoor.G
namespace Go.Proofs.YtjknhnhcbadigaaDoor.G
set_option linter.all false
open Go.RowKit L D
set_option maxRecDepth 100000
theorem c_impl_FormatInt (n : Int) (h : -9223372036854775808 ≤ n ∧ n ≤ 9223372036854775807) : Sound ty Tryd.prog 36 [.a (.lit (.int .i64 n))] [.a (.lit (.string (str8 (Lib.itoa n))))] := by
  refine Sound.of X Tryd.call36 Tryd.func36 rfl rfl (by decide) Tryd.ntmps36 (by simp) ?_
  intro zb
  refine W.seq ?_
  refine W.reg X [] [] [0] [] rfl ⟨⟩ ?_
  refine W.seq ?_
  refine W.reg X [] [(4, ⟨false, [.a (.lit (.string (str8 (Lib.itoa n))))]⟩)] [2] [] rfl (by (repeat' (first | with_reducible exact AllP.nil | with_reducible refine AllP.mk ?_ ?_ | with_reducible apply And.intro)) <;> skip; (iterate 1 (all_goals try (first | exact (c_strconv_Itoa n h) | exact fun _ => (c_strconv_Itoa n h) | exact fun _ _ => (c_strconv_Itoa n h)))); all_goals (first | (intros; omega) | exact rfl | exact El_all _ (by decide) | exact ⟨rfl, El_all _ (by decide)⟩ | ((intro h1; first | (intro h2; first | (intro h3; refine And.intro ?_ ?_) | refine And.intro ?_ ?_) | refine And.intro ?_ ?_) <;> first | omega | ((try simp only [nb, inr_t, inr_f] at *); (try simp (disch := omega) only [i64w]); omega)) | ((try simp only [nb, inr_t, inr_f] at *); (simp (disch := omega) only [i64w]); omega) | (refine fun _ => ?_; dsimp only [hyps, imps]; omega) | (refine fun _ _ => ?_; dsimp only [hyps, imps]; omega) | exact (u8w _).1 | exact (u8w _).2 | exact (u8n _).1 | exact (u8n _).2 | (simp only [byt, maxLen, lens]; omega) | (intros; simp only [nb] at *; omega))) ?_
  refine W.ret ?_
  exact Fin.ret rfl ⟨rfl, ⟨⟩⟩
theorem c_spec_FormatInt (n : Int) (h : -9223372036854775808 ≤ n ∧ n ≤ 9223372036854775807) : Sound ty Tryd.prog 34 [.a (.lit (.int .i64 n))] [.a (.lit (.string (str8 (Lib.itoa n))))] := by
  refine Sound.of X Tryd.call34 Tryd.func34 rfl rfl (by decide) Tryd.ntmps34 (by simp) ?_
  intro zb
  refine W.seq ?_
  refine W.reg X [] [] [0] [] rfl ⟨⟩ ?_
  refine W.seq ?_
  refine W.seq ?_
  refine W.reg X [] [] [0, 7] [] rfl ⟨⟩ ?_
  refine W.cond rfl (fun hb0 => ?_) (fun hb0 => ?_)
  · try simp only [nb, inr_t, inr_f, isEmpty_t] at hb0
    refine W.seq ?_
    refine W.reg X [] [] [2] [] rfl ⟨⟩ ?_
    refine W.ret ?_
    exact Fin.ret rfl ⟨by rw [show n = 0 by omega, itoa_zero]; rfl, ⟨⟩⟩
  · try simp only [nb, inr_t, inr_f, isEmpty_t] at hb0
    refine W.skip ?_
    refine W.seq ?_
    refine W.reg X [] [] [0, 3] [] rfl ⟨⟩ ?_
    refine W.seq ?_
    refine W.seq ?_
    refine W.reg X [] [] [0, 3, 4] [] rfl ⟨⟩ ?_
    refine W.block ?_
    refine W.loopO (fun k => dd k.1 ++ k.2 = dd n ∧ k.1.natAbs ≤ n.natAbs ∧ -9223372036854775808 ≤ k.1 ∧ k.1 ≤ 9223372036854775807) (fun k : (Int × List UInt8) => [(3, .one (.a (.lit (.string (str8 k.2))))), (4, .one (.a (.lit (.int .i64 k.1))))]) (fun k => []) (fun k => k.1.natAbs) (n, []) (fun k => rfl) ⟨by simp, Nat.le_refl _, h.1, h.2⟩ rfl ?_
    rintro k ⟨hdd, hle, hl1, hl2⟩
    refine W.seq ?_
    refine W.seq ?_
    refine W.reg X [] [] [0, 3, 4, 10] [] rfl ⟨⟩ ?_
    refine W.cond rfl (fun hb1 => ?_) (fun hb1 => ?_)
    · try simp only [nb, inr_t, inr_f, isEmpty_t] at hb1
      have hdl := dd_len n.natAbs n (Nat.le_refl _) (by omega)
      have hkl : k.2.length ≤ 20 := by have := congrArg List.length hdd; rw [List.length_append] at this; omega
      refine W.skip ?_
      refine W.seq ?_
      refine W.block ?_
      refine W.seq ?_
      refine W.reg X [] [] [0, 3, 4, 5] [] rfl (by (repeat' (first | exact True.intro | apply And.intro)) <;> first | (intros; omega) | exact rfl | exact El_all _ (by decide) | exact ⟨rfl, El_all _ (by decide)⟩ | ((intro h1; first | (intro h2; first | (intro h3; refine And.intro ?_ ?_) | refine And.intro ?_ ?_) | refine And.intro ?_ ?_) <;> first | omega | ((try simp only [nb, inr_t, inr_f] at *); (try simp (disch := omega) only [i64w]); omega)) | ((try simp only [nb, inr_t, inr_f] at *); (simp (disch := omega) only [i64w]); omega) | (refine fun _ => ?_; dsimp only [hyps, imps]; omega) | (refine fun _ _ => ?_; dsimp only [hyps, imps]; omega) | exact (u8w _).1 | exact (u8w _).2 | exact (u8n _).1 | exact (u8n _).2 | (simp only [byt, maxLen, lens]; omega) | (intros; simp only [nb] at *; omega)) ?_
      refine W.seq ?_
      refine W.seq ?_
      refine W.reg X [] [] [0, 3, 4, 5, 16] [] rfl ⟨⟩ ?_
      refine W.cond rfl (fun hb2 => ?_) (fun hb2 => ?_)
      · try simp only [nb, inr_t, inr_f, isEmpty_t] at hb2
        refine W.reg X [] [] [0, 3, 4, 5] [] rfl ⟨⟩ ?_
        refine W.reg X [] [] [0, 3, 4] [] rfl (by (repeat' (first | with_reducible exact AllP.nil | with_reducible refine AllP.mk ?_ ?_ | with_reducible apply And.intro)) <;> skip; (iterate 1 (all_goals try (first | exact cat_ok _ _ (by simp only [List.length_cons, List.length_nil, List.length_append]; omega) | exact fun _ => cat_ok _ _ (by simp only [List.length_cons, List.length_nil, List.length_append]; omega) | exact fun _ _ => cat_ok _ _ (by simp only [List.length_cons, List.length_nil, List.length_append]; omega)))); all_goals (first | (intros; omega) | exact rfl | exact El_all _ (by decide) | exact ⟨rfl, El_all _ (by decide)⟩ | ((intro h1; first | (intro h2; first | (intro h3; refine And.intro ?_ ?_) | refine And.intro ?_ ?_) | refine And.intro ?_ ?_) <;> first | omega | ((try simp only [nb, inr_t, inr_f] at *); (try simp (disch := omega) only [i64w]); omega)) | ((try simp only [nb, inr_t, inr_f] at *); (simp (disch := omega) only [i64w]); omega) | (refine fun _ => ?_; dsimp only [hyps, imps]; omega) | (refine fun _ _ => ?_; dsimp only [hyps, imps]; omega) | exact (u8w _).1 | exact (u8w _).2 | exact (u8n _).1 | exact (u8n _).2 | (simp only [byt, maxLen, lens]; omega) | (intros; simp only [nb] at *; omega))) ?_
        refine W.reg X [] [] [0, 3, 4] [] rfl (by (repeat' (first | exact True.intro | apply And.intro)) <;> first | (intros; omega) | exact rfl | exact El_all _ (by decide) | exact ⟨rfl, El_all _ (by decide)⟩ | ((intro h1; first | (intro h2; first | (intro h3; refine And.intro ?_ ?_) | refine And.intro ?_ ?_) | refine And.intro ?_ ?_) <;> first | omega | ((try simp only [nb, inr_t, inr_f] at *); (try simp (disch := omega) only [i64w]); omega)) | ((try simp only [nb, inr_t, inr_f] at *); (simp (disch := omega) only [i64w]); omega) | (refine fun _ => ?_; dsimp only [hyps, imps]; omega) | (refine fun _ _ => ?_; dsimp only [hyps, imps]; omega) | exact (u8w _).1 | exact (u8w _).2 | exact (u8n _).1 | exact (u8n _).2 | (simp only [byt, maxLen, lens]; omega) | (intros; simp only [nb] at *; omega)) ?_
        have hdg := digit_neg ⟨hl1, hl2⟩ (by omega)
        have hst := dd_step hb1
        have hqa : (k.1.tdiv 10).natAbs = k.1.natAbs / 10 := by rw [Int.natAbs_tdiv]; rfl
        have hk0 : 0 < k.1.natAbs := by omega
        refine ⟨(k.1.tdiv 10, [UInt8.ofNat (48 + k.1.natAbs % 10)] ++ k.2), ⟨by rw [← List.append_assoc, ← hst]; exact hdd, by omega, by omega, by omega⟩, by show (k.1.tdiv 10).natAbs < k.1.natAbs; omega, ?_⟩
        rw [str8_app, hdg, i64w (a := k.1.tdiv 10) (by omega)]
      · try simp only [nb, inr_t, inr_f, isEmpty_t] at hb2
        refine W.skip ?_
        refine W.reg X [] [] [0, 3, 4] [] rfl (by (repeat' (first | with_reducible exact AllP.nil | with_reducible refine AllP.mk ?_ ?_ | with_reducible apply And.intro)) <;> skip; (iterate 1 (all_goals try (first | exact cat_ok _ _ (by simp only [List.length_cons, List.length_nil, List.length_append]; omega) | exact fun _ => cat_ok _ _ (by simp only [List.length_cons, List.length_nil, List.length_append]; omega) | exact fun _ _ => cat_ok _ _ (by simp only [List.length_cons, List.length_nil, List.length_append]; omega)))); all_goals (first | (intros; omega) | exact rfl | exact El_all _ (by decide) | exact ⟨rfl, El_all _ (by decide)⟩ | ((intro h1; first | (intro h2; first | (intro h3; refine And.intro ?_ ?_) | refine And.intro ?_ ?_) | refine And.intro ?_ ?_) <;> first | omega | ((try simp only [nb, inr_t, inr_f] at *); (try simp (disch := omega) only [i64w]); omega)) | ((try simp only [nb, inr_t, inr_f] at *); (simp (disch := omega) only [i64w]); omega) | (refine fun _ => ?_; dsimp only [hyps, imps]; omega) | (refine fun _ _ => ?_; dsimp only [hyps, imps]; omega) | exact (u8w _).1 | exact (u8w _).2 | exact (u8n _).1 | exact (u8n _).2 | (simp only [byt, maxLen, lens]; omega) | (intros; simp only [nb] at *; omega))) ?_
        refine W.reg X [] [] [0, 3, 4] [] rfl (by (repeat' (first | exact True.intro | apply And.intro)) <;> first | (intros; omega) | exact rfl | exact El_all _ (by decide) | exact ⟨rfl, El_all _ (by decide)⟩ | ((intro h1; first | (intro h2; first | (intro h3; refine And.intro ?_ ?_) | refine And.intro ?_ ?_) | refine And.intro ?_ ?_) <;> first | omega | ((try simp only [nb, inr_t, inr_f] at *); (try simp (disch := omega) only [i64w]); omega)) | ((try simp only [nb, inr_t, inr_f] at *); (simp (disch := omega) only [i64w]); omega) | (refine fun _ => ?_; dsimp only [hyps, imps]; omega) | (refine fun _ _ => ?_; dsimp only [hyps, imps]; omega) | exact (u8w _).1 | exact (u8w _).2 | exact (u8n _).1 | exact (u8n _).2 | (simp only [byt, maxLen, lens]; omega) | (intros; simp only [nb] at *; omega)) ?_
        have hdg := digit_pos ⟨hl1, hl2⟩ (by omega)
        have hst := dd_step hb1
        have hqa : (k.1.tdiv 10).natAbs = k.1.natAbs / 10 := by rw [Int.natAbs_tdiv]; rfl
        have hk0 : 0 < k.1.natAbs := by omega
        refine ⟨(k.1.tdiv 10, [UInt8.ofNat (48 + k.1.natAbs % 10)] ++ k.2), ⟨by rw [← List.append_assoc, ← hst]; exact hdd, by omega, by omega, by omega⟩, by show (k.1.tdiv 10).natAbs < k.1.natAbs; omega, ?_⟩
        rw [str8_app, hdg, i64w (a := k.1.tdiv 10) (by omega)]
    · try simp only [nb, inr_t, inr_f, isEmpty_t] at hb1
      have hdl := dd_len n.natAbs n (Nat.le_refl _) (by omega)
      have hkl : k.2.length ≤ 20 := by have := congrArg List.length hdd; rw [List.length_append] at this; omega
      refine W.exit ?_
      refine W.seq ?_
      refine W.seq ?_
      refine W.reg X [] [] [3, 27] [] rfl ⟨⟩ ?_
      refine W.cond rfl (fun hb3 => ?_) (fun hb3 => ?_)
      · try simp only [nb, inr_t, inr_f, isEmpty_t] at hb3
        refine W.seq ?_
        refine W.reg X [] [] [2] [] rfl (by (repeat' (first | with_reducible exact AllP.nil | with_reducible refine AllP.mk ?_ ?_ | with_reducible apply And.intro)) <;> skip; (iterate 1 (all_goals try (first | exact cat_ok _ _ (by simp only [List.length_cons, List.length_nil, List.length_append]; omega) | exact fun _ => cat_ok _ _ (by simp only [List.length_cons, List.length_nil, List.length_append]; omega) | exact fun _ _ => cat_ok _ _ (by simp only [List.length_cons, List.length_nil, List.length_append]; omega)))); all_goals (first | (intros; omega) | exact rfl | exact El_all _ (by decide) | exact ⟨rfl, El_all _ (by decide)⟩ | ((intro h1; first | (intro h2; first | (intro h3; refine And.intro ?_ ?_) | refine And.intro ?_ ?_) | refine And.intro ?_ ?_) <;> first | omega | ((try simp only [nb, inr_t, inr_f] at *); (try simp (disch := omega) only [i64w]); omega)) | ((try simp only [nb, inr_t, inr_f] at *); (simp (disch := omega) only [i64w]); omega) | (refine fun _ => ?_; dsimp only [hyps, imps]; omega) | (refine fun _ _ => ?_; dsimp only [hyps, imps]; omega) | exact (u8w _).1 | exact (u8w _).2 | exact (u8n _).1 | exact (u8n _).2 | (simp only [byt, maxLen, lens]; omega) | (intros; simp only [nb] at *; omega))) ?_
        refine W.ret ?_
        exact Fin.ret rfl ⟨by rw [itoa_dd hb0, if_pos hb3, ← hdd, show k.1 = 0 by omega]; exact congrArg Value.string (str8_app [45] k.2), ⟨⟩⟩
      · try simp only [nb, inr_t, inr_f, isEmpty_t] at hb3
        refine W.skip ?_
        refine W.seq ?_
        refine W.reg X [] [] [2] [] rfl ⟨⟩ ?_
        refine W.ret ?_
        exact Fin.ret rfl ⟨by rw [itoa_dd hb0, if_neg (by omega), ← hdd, show k.1 = 0 by omega]; rfl, ⟨⟩⟩
end Go.Proofs.YtjknhnhcbadigaaDoor.G
namespace Go.Proofs.YtjknhnhcbadigaaDoor.G
set_option linter.all false
open Go.RowKit L D
set_option maxRecDepth 100000
theorem c_impl_InRange (x lo hi : Int) : Sound ty Tryd.prog 44 [.a (.lit (.int .i64 x)), .a (.lit (.int .i64 lo)), .a (.lit (.int .i64 hi))] [.a (.lit (.bool (inr x lo hi)))] := by
  refine Sound.of X Tryd.call44 Tryd.func44 rfl rfl (by decide) Tryd.ntmps44 (by simp) ?_
  intro zb
  refine W.seq ?_
  refine W.reg X [] [] [0, 1, 2] [] rfl ⟨⟩ ?_
  refine W.seq ?_
  refine W.reg X [] [] [6] [] rfl ⟨⟩ ?_
  refine W.ret ?_
  exact Fin.ret rfl ⟨rfl, ⟨⟩⟩
end Go.Proofs.YtjknhnhcbadigaaDoor.G
namespace Go.Proofs.YtjknhnhcbadigaaDoor.G
set_option linter.all false
open Go.RowKit L D
theorem join_snoc (l : List (List UInt8)) (sep y : List UInt8) (h : l ≠ []) : Lib.join (l ++ [y]) sep = Lib.join l sep ++ sep ++ y := by
  cases l with
  | nil => exact absurd rfl h
  | cons x r =>
    rw [List.cons_append, Lib.join_cons, Lib.join_cons]
    simp [Lib.joinTail, List.append_assoc]
theorem join_le (l : List (List UInt8)) (c : UInt8) : (Lib.join l [c]).length ≤ lsz List.length l := by
  cases l with
  | nil => simp [Lib.join_nil]
  | cons x r =>
    rw [Lib.join_cons, List.length_append, Lib.joinTail_length]
    simp only [lsz, List.length_cons, List.map_cons, List.sum_cons, Lib.lens, List.length_nil]
    have : (List.map (fun x => List.length x) r).sum = (List.map List.length r).sum := rfl
    omega
theorem lsz_take (l : List (List UInt8)) (k : Nat) : lsz List.length (l.take k) ≤ lsz List.length l := by
  have h1 := take_sum_le l List.length k
  unfold lsz
  have : (l.take k).length ≤ l.length := List.length_take_le' _ _
  omega
theorem lsz_map {α : Type} (f : α → List UInt8) (C : Nat) : ∀ (l : List α), (∀ y, y ∈ l → (f y).length ≤ C) → lsz List.length (l.map f) ≤ (C + 1) * l.length
  | [], _ => by simp [lsz]
  | x :: r, h => by
    have h1 := lsz_map f C r (fun y hy => h y (List.mem_cons_of_mem _ hy))
    have h2 := h x (List.mem_cons_self ..)
    unfold lsz at h1 ⊢
    simp only [List.map_cons, List.length_cons, List.sum_cons, Nat.mul_add] at h1 ⊢
    omega
theorem at_mem {α : Type} {P : α → Prop} {l : List α} (h : ∀ y, y ∈ l → P y) {k : Nat} (hk : k < l.length) (d : α) : P (l.getD k d) := by
  rw [List.getD_eq_getElem?_getD, List.getElem?_eq_getElem hk]
  exact h _ (List.getElem_mem hk)
theorem map_at {α β : Type} (f : α → β) {l : List α} {k : Nat} (hk : k < l.length) (d : α) (e : β) : (l.map f).getD k e = f (l.getD k d) := by
  rw [List.getD_eq_getElem?_getD, List.getD_eq_getElem?_getD, List.getElem?_map, List.getElem?_eq_getElem hk]; rfl
theorem c_strings_Join (l : List (List UInt8)) (c : UInt8) (h : lsz List.length l ≤ 1099511627776) : Sound ty Tryd.prog 69 [.a (.sl .str l), .a (.lit (.string (str8 [c])))] [.a (.lit (.string (str8 (Lib.join l [c]))))] := by
  refine ⟨Tryd.call69, ?_⟩
  rintro w us _ ha
  match us, ha with
  | [u, v], ⟨h1, h2, _⟩ =>
    obtain ⟨fp, h1⟩ := h1
    obtain ⟨_, rfl, _, _⟩ := h2
    obtain ⟨oa, cap, rfl, hc, hm, h3⟩ := (show Sl 1 EStr w u l fp from h1)
    have hlen : l.length ≤ 1099511627776 := by unfold lsz at h; omega
    rcases h3 with ⟨rfl, _⟩ | ⟨b, off, fps, rfl, hb, rfl, hE⟩
    · refine (Tryd.strings_Join_none oa cap (str8 [c]) w).mono ?_
      rintro e w' ⟨rfl, rfl⟩
      exact ⟨_, [], rfl, Below.refl _ _, Own.nil _ _, ⟨[], [], ⟨rfl, rfl, rfl⟩, rfl, rfl⟩⟩
    · have := Tryd.strings_Join b off cap (l.map str8) (str8 [c]) w (fun j x hx => by
          rw [List.getElem?_map] at hx
          cases hy : l[j]? with
          | none => rw [hy] at hx; cases hx
          | some y =>
            rw [hy] at hx
            simp only [Option.map_some, Option.some.injEq] at hx
            subst hx
            obtain ⟨f, hf⟩ := fps_some hE.1 hy
            obtain ⟨cs, q1, rfl, _⟩ := hE.2 j y f hy hf
            have := q1 0 _ rfl
            rw [Nat.add_zero, Nat.mul_one] at this
            exact this) hb (by rw [List.length_map]; omega) (by rw [List.length_map]; exact hc) (by
          rw [List.map_map]
          rw [map_str8]
          have := join_le l c
          rw [str8_list]
          omega)
      rw [List.length_map, List.map_map] at this
      rw [map_str8] at this
      refine this.mono ?_
      rintro e w' ⟨rfl, hb'⟩
      exact ⟨_, [], rfl, hb', Own.nil _ _, ⟨[], [], ⟨rfl, rfl, rfl⟩, rfl, rfl⟩⟩
def orD (l : List (List UInt8)) (c : UInt8) : ByteArray := if l.length = 0 then str8 [45] else str8 (Lib.join l [c])
def jn (l : List (List UInt8)) (c : UInt8) (k : Nat) : ByteArray := str8 (Lib.join (l.take k) [c])
theorem jn_sz (l : List (List UInt8)) (c : UInt8) (k : Nat) : (jn l c k).size ≤ lsz List.length l := by
  have h1 := join_le (l.take k) c
  have h2 := lsz_take l k
  show (str8 (Lib.join (l.take k) [c])).size ≤ _
  rw [str8_size]; omega
theorem jn_step (l : List (List UInt8)) (c : UInt8) {k : Nat} (h : k < l.length) (h0 : 0 < k) : jn l c (k + 1) = jn l c k ++ str8 [c] ++ str8 (l.getD k []) := by
  unfold jn
  rw [take_snoc l k [] h, join_snoc, str8_app, str8_app]
  intro hn
  have := congrArg List.length hn
  rw [List.length_take, List.length_nil] at this
  omega
theorem jn_first (l : List (List UInt8)) (c : UInt8) {k : Nat} (h : k < l.length) (h0 : ¬ 0 < k) : jn l c (k + 1) = jn l c k ++ str8 (l.getD k []) := by
  obtain rfl : k = 0 := by omega
  unfold jn
  rw [take_snoc l 0 [] h, List.take_zero, List.nil_append, Lib.join_one, Lib.join_nil, str8_app, List.nil_append]
theorem jn_all (l : List (List UInt8)) (c : UInt8) {k : Nat} (h : l.length ≤ k) (h0 : l.length ≠ 0) : jn l c k = orD l c := by
  unfold jn orD
  rw [List.take_of_length_le h, if_neg h0]
def fInt (n : Int) : List UInt8 := Lib.itoa n
end Go.Proofs.YtjknhnhcbadigaaDoor.G
namespace Go.Proofs.YtjknhnhcbadigaaDoor.G
set_option linter.all false
open Go.RowKit L D
set_option maxRecDepth 100000
theorem c_impl_orDash (l : List (List UInt8)) (c : UInt8) (h : lsz List.length l ≤ 1099511627776) : Sound ty Tryd.prog 39 [.a (.sl .str l), .a (.lit (.string (str8 [c])))] [.a (.lit (.string (orD l c)))] := by
  refine Sound.of X Tryd.call39 Tryd.func39 rfl rfl (by decide) Tryd.ntmps39 (by simp) ?_
  intro zb
  refine W.bound 0 rfl (fun hll => ?_)
  refine W.seq ?_
  refine W.reg X [] [] [0, 1] [] rfl ⟨⟩ ?_
  refine W.seq ?_
  refine W.seq ?_
  refine W.reg X [] [] [0, 1, 7] [] rfl ⟨⟩ ?_
  refine W.cond rfl (fun hb0 => ?_) (fun hb0 => ?_)
  · try simp only [nb, inr_t, inr_f, isEmpty_t] at hb0
    refine W.seq ?_
    refine W.reg X [] [] [4] [] rfl ⟨⟩ ?_
    refine W.ret ?_
    exact Fin.ret rfl ⟨by unfold orD; rw [if_pos (by omega)]; rfl, ⟨⟩⟩
  · try simp only [nb, inr_t, inr_f, isEmpty_t] at hb0
    refine W.skip ?_
    refine W.seq ?_
    refine W.reg X [] [(10, ⟨false, [.a (.lit (.string (str8 (Lib.join l [c]))))]⟩)] [4] [] rfl (by (repeat' (first | with_reducible exact AllP.nil | with_reducible refine AllP.mk ?_ ?_ | with_reducible apply And.intro)) <;> skip; (iterate 1 (all_goals try (first | exact (c_strings_Join l c h) | exact fun _ => (c_strings_Join l c h) | exact fun _ _ => (c_strings_Join l c h)))); all_goals (first | (intros; omega) | exact rfl | exact El_all _ (by decide) | exact ⟨rfl, El_all _ (by decide)⟩ | ((intro h1; first | (intro h2; first | (intro h3; refine And.intro ?_ ?_) | refine And.intro ?_ ?_) | refine And.intro ?_ ?_) <;> first | omega | ((try simp only [nb, inr_t, inr_f] at *); (try simp (disch := omega) only [i64w]); omega)) | ((try simp only [nb, inr_t, inr_f] at *); (simp (disch := omega) only [i64w]); omega) | (refine fun _ => ?_; dsimp only [hyps, imps]; omega) | (refine fun _ _ => ?_; dsimp only [hyps, imps]; omega) | exact (u8w _).1 | exact (u8w _).2 | exact (u8n _).1 | exact (u8n _).2 | (simp only [byt, maxLen, lens]; omega) | (intros; simp only [nb] at *; omega))) ?_
    refine W.ret ?_
    exact Fin.ret rfl ⟨by unfold orD; rw [if_neg (by omega)], ⟨⟩⟩
end Go.Proofs.YtjknhnhcbadigaaDoor.G
namespace Go.Proofs.YtjknhnhcbadigaaDoor.G
set_option linter.all false
open Go.RowKit L D
theorem wrap_rg (a : Int) : -9223372036854775808 ≤ IntKind.i64.wrap a ∧ IntKind.i64.wrap a ≤ 9223372036854775807 := by
  rw [IntKind.wrap_i64]; omega
theorem wrap_sub (a b c : Int) : IntKind.i64.wrap (a + IntKind.i64.wrap (b - c)) = IntKind.i64.wrap (IntKind.i64.wrap (a + b) - c) := by
  simp only [IntKind.wrap_i64]; omega
def waiting (c : Cli) : Int := IntKind.i64.wrap ((c.submitted.length : Int) - c.sent)
def pend (l : List Dev) : Nat → Int
  | 0 => 0
  | k + 1 => IntKind.i64.wrap (pend l k + waiting (l.getD k (dfl .Dev)).live)
theorem pend_rg (l : List Dev) (k : Nat) : -9223372036854775808 ≤ pend l k ∧ pend l k ≤ 9223372036854775807 := by
  cases k with
  | zero => exact ⟨show (-9223372036854775808 : Int) ≤ 0 by decide, show (0 : Int) ≤ 9223372036854775807 by decide⟩
  | succ k => exact wrap_rg _
def unr (l : List Dev) : Nat → Int
  | 0 => 0
  | k + 1 => if (k ^^^ 1) < l.length then IntKind.i64.wrap (IntKind.i64.wrap (unr l k + ((l.getD k (dfl .Dev)).live.submitted.length : Int)) - ((l.getD (k ^^^ 1) (dfl .Dev)).live.inbox.length : Int)) else unr l k
theorem unr_rg (l : List Dev) (k : Nat) : -9223372036854775808 ≤ unr l k ∧ unr l k ≤ 9223372036854775807 := by
  induction k with
  | zero => exact ⟨show (-9223372036854775808 : Int) ≤ 0 by decide, show (0 : Int) ≤ 9223372036854775807 by decide⟩
  | succ k ih =>
    unfold unr
    split
    · exact wrap_rg _
    · exact ih
theorem unr_hit {l : List Dev} {k : Nat} (h : (k ^^^ 1) < l.length) : unr l (k + 1) = IntKind.i64.wrap (IntKind.i64.wrap (unr l k + ((l.getD k (dfl .Dev)).live.submitted.length : Int)) - ((l.getD (k ^^^ 1) (dfl .Dev)).live.inbox.length : Int)) := if_pos h
theorem unr_miss {l : List Dev} {k : Nat} (h : ¬ (k ^^^ 1) < l.length) : unr l (k + 1) = unr l k := if_neg h
theorem pairOK_nat {x : Wld} {k : Nat} (h : k < x.devices.length) : pairOK x (k : Int) = decide ((k ^^^ 1) < x.devices.length) := by
  have : hasC x (k : Int) = true := by rw [hasC, inr_t]; omega
  rw [pairOK, this, Bool.true_and]
  simp only [Int.toNat_natCast, Int.ofNat_lt]
theorem int_len {l : List Int} (h : ∀ y, y ∈ l → I64 y) : ∀ y, y ∈ l → (fInt y).length ≤ 21 := fun y hy => itoa_sz (h y hy)
theorem itoa_ne (n : Int) : 0 < (str8 (Lib.itoa n)).size := by
  rw [str8_size]
  by_cases h : n = 0
  · subst h; rw [itoa_zero]; decide
  · rw [itoa_dd h, List.length_append]
    have : 0 < (dd n).length := by
      rw [dd_step h, List.length_append]; simp
    omega
theorem jn_ne (l : List Int) (c : UInt8) {k : Nat} (h : 0 < k) (hk : k ≤ l.length) : 0 < (jn (l.map fInt) c k).size := by
  obtain ⟨j, rfl⟩ : ∃ j, k = j + 1 := ⟨k - 1, by omega⟩
  have hl : (l.map fInt).length = l.length := List.length_map ..
  have h1 : (l.map fInt).getD j [] = fInt (l.getD j 0) := map_at fInt (by omega) _ _
  have h2 := itoa_ne (l.getD j 0)
  by_cases h0 : 0 < j
  · rw [jn_step _ _ (by omega) h0, h1, ByteArray.size_append]
    unfold fInt; omega
  · rw [jn_first _ _ (by omega) h0, h1, ByteArray.size_append]
    unfold fInt; omega
/-- A list of numbers, or a dash. -/
theorem dash_f (l : List Int) (c : UInt8) {k : Nat} (h : l.length ≤ k) (hk : k ≤ l.length) (hn : jn (l.map fInt) c k ≠ str8 []) : jn (l.map fInt) c k = orD (l.map fInt) c := by
  rw [jn_all _ _ (by rw [List.length_map]; omega)]
  intro h0
  rw [List.length_map] at h0
  obtain rfl : k = 0 := by omega
  exact hn (by unfold jn; rw [List.take_zero, Lib.join_nil])
theorem dash_t (l : List Int) (c : UInt8) {k : Nat} (h : l.length ≤ k) (hk : k ≤ l.length) (he : jn (l.map fInt) c k = str8 []) : orD (l.map fInt) c = str8 [45] := by
  unfold orD
  rw [List.length_map, if_pos]
  by_cases h0 : l.length = 0
  · exact h0
  · have h1 := jn_ne l c (k := k) (by omega) hk
    have := congrArg ByteArray.size he
    rw [str8_size, List.length_nil] at this
    omega
theorem nil_t {b : ByteArray} (h : (b.toList == (⟨#[]⟩ : ByteArray).toList) = true) : b = str8 [] := by
  have := eq_of_beq h
  rw [ByteArray.toList_eq, ByteArray.toList_eq] at this
  exact congrArg (fun l => str8 l) this
theorem nil_f {b : ByteArray} (h : (b.toList == (⟨#[]⟩ : ByteArray).toList) = false) : b ≠ str8 [] := by
  intro e
  subst e
  rw [show (str8 []) = (⟨#[]⟩ : ByteArray) from rfl, beq_self_eq_true] at h
  cases h
def fWld (x : Wld) : ByteArray := str8 (Lib.itoa x.round) ++ str8 [32] ++ str8 (Lib.itoa x.cancelled) ++ str8 [32] ++ orD (x.replaced.map fInt) 44 ++ str8 [32] ++ str8 (Lib.itoa (pend x.devices x.devices.length)) ++ str8 [43] ++ str8 (Lib.itoa (unr x.devices x.devices.length))
theorem orD_sz (l : List (List UInt8)) (c : UInt8) : (orD l c).size ≤ lsz List.length l + 1 := by
  unfold orD
  split
  · rw [str8_size]; simp
  · rw [str8_size]; have := join_le l c; omega
end Go.Proofs.YtjknhnhcbadigaaDoor.G
namespace Go.Proofs.YtjknhnhcbadigaaDoor.G
set_option linter.all false
open Go.RowKit L D
set_option maxRecDepth 100000
theorem c_impl_WaitingMessages (c : Cli) : Sound ty Tryd.prog 81 [.agg (dec_Cli c)] [.a (.lit (.int .i64 (waiting c)))] := by
  refine Sound.of X Tryd.call81 Tryd.func81 rfl rfl (by decide) Tryd.ntmps81 (by simp) ?_
  intro zb
  refine W.seq ?_
  refine W.reg X [] [] [1] [] rfl ⟨⟩ ?_
  refine W.seq ?_
  refine W.reg X [] [] [2] [] rfl ⟨⟩ ?_
  refine W.ret ?_
  exact Fin.ret rfl ⟨rfl, ⟨⟩⟩
theorem c_impl_PendingMessages (x : Wld) : Sound ty Tryd.prog 60 [.agg (dec_Wld x)] [.a (.lit (.int .i64 (pend x.devices x.devices.length)))] := by
  refine Sound.of X Tryd.call60 Tryd.func60 rfl rfl (by decide) Tryd.ntmps60 (by simp) ?_
  intro zb
  refine W.boundA 0 2 rfl rfl (fun hl2 => ?_)
  refine W.seq ?_
  refine W.reg X [] [] [1] [] rfl ⟨⟩ ?_
  refine W.seq ?_
  refine W.reg X [] [] [1, 3] [] rfl ⟨⟩ ?_
  refine W.seq ?_
  refine W.seq ?_
  refine W.reg X [] [] [3, 7, 8, 9] [] rfl ⟨⟩ ?_
  refine W.block ?_
  refine W.loopO (fun k => k ≤ x.devices.length) (fun k : Nat => [(3, .one (.a (.lit (.int .i64 (pend x.devices k))))), (9, .one (.a (.lit (.int .i64 k))))]) (fun k => []) (fun k => x.devices.length - k) 0 (fun k => rfl) (Nat.zero_le _) rfl ?_
  intro k hk
  refine W.seq ?_
  refine W.reg X [] [] [3, 7, 8, 9, 10] [] rfl ⟨⟩ ?_
  refine W.seq ?_
  refine W.cond rfl (fun hb0 => ?_) (fun hb0 => ?_)
  · try simp only [nb, inr_t, inr_f, isEmpty_t] at hb0
    refine W.skip ?_
    refine W.seq ?_
    refine W.block ?_
    refine W.seq ?_
    refine W.reg X [] [] [3, 5, 7, 8, 9] [] rfl (by (repeat' (first | exact True.intro | apply And.intro)) <;> first | (intros; omega) | exact rfl | exact El_all _ (by decide) | exact ⟨rfl, El_all _ (by decide)⟩ | ((intro h1; first | (intro h2; first | (intro h3; refine And.intro ?_ ?_) | refine And.intro ?_ ?_) | refine And.intro ?_ ?_) <;> first | omega | ((try simp only [nb, inr_t, inr_f] at *); (try simp (disch := omega) only [i64w]); omega)) | ((try simp only [nb, inr_t, inr_f] at *); (simp (disch := omega) only [i64w]); omega) | (refine fun _ => ?_; dsimp only [hyps, imps]; omega) | (refine fun _ _ => ?_; dsimp only [hyps, imps]; omega) | exact (u8w _).1 | exact (u8w _).2 | exact (u8n _).1 | exact (u8n _).2 | (simp only [byt, maxLen, lens]; omega) | (intros; simp only [nb] at *; omega)) ?_
    refine W.reg X [] [(16, ⟨false, [.a (.lit (.int .i64 (waiting ((x.devices.getD k (dfl .Dev)).live))))]⟩)] [3, 7, 8, 9] [] rfl (by (repeat' (first | with_reducible exact AllP.nil | with_reducible refine AllP.mk ?_ ?_ | with_reducible apply And.intro)) <;> skip; (iterate 1 (all_goals try (first | exact (c_impl_WaitingMessages ((x.devices.getD k (dfl .Dev)).live)) | exact fun _ => (c_impl_WaitingMessages ((x.devices.getD k (dfl .Dev)).live)) | exact fun _ _ => (c_impl_WaitingMessages ((x.devices.getD k (dfl .Dev)).live))))); all_goals (first | (intros; omega) | exact rfl | exact El_all _ (by decide) | exact ⟨rfl, El_all _ (by decide)⟩ | ((intro h1; first | (intro h2; first | (intro h3; refine And.intro ?_ ?_) | refine And.intro ?_ ?_) | refine And.intro ?_ ?_) <;> first | omega | ((try simp only [nb, inr_t, inr_f] at *); (try simp (disch := omega) only [i64w]); omega)) | ((try simp only [nb, inr_t, inr_f] at *); (simp (disch := omega) only [i64w]); omega) | (refine fun _ => ?_; dsimp only [hyps, imps]; omega) | (refine fun _ _ => ?_; dsimp only [hyps, imps]; omega) | exact (u8w _).1 | exact (u8w _).2 | exact (u8n _).1 | exact (u8n _).2 | (simp only [byt, maxLen, lens]; omega) | (intros; simp only [nb] at *; omega))) ?_
    refine W.reg X [] [] [3, 7, 8, 9] [] rfl ⟨⟩ ?_
    refine ⟨k + 1, by omega, by omega, ?_⟩
    rw [wadd _ k rfl (by omega)]
    try rfl
  · try simp only [nb, inr_t, inr_f, isEmpty_t] at hb0
    refine W.exit ?_
    refine W.seq ?_
    refine W.reg X [] [] [2] [] rfl ⟨⟩ ?_
    refine W.ret ?_
    exact Fin.ret rfl ⟨by rw [show k = x.devices.length by omega], ⟨⟩⟩
theorem c_impl_hasClient (x : Wld) (c : Int) : Sound ty Tryd.prog 93 [.agg (dec_Wld x), .a (.lit (.int .i64 c))] [.a (.lit (.bool (hasC x c)))] := by
  refine Sound.of X Tryd.call93 Tryd.func93 rfl rfl (by decide) Tryd.ntmps93 (by simp) ?_
  intro zb
  refine W.boundA 0 2 rfl rfl (fun hl2 => ?_)
  refine W.seq ?_
  refine W.reg X [] [] [1, 2] [] rfl ⟨⟩ ?_
  refine W.seq ?_
  refine W.reg X [] [(10, ⟨false, [.a (.lit (.bool (inr c 0 (IntKind.i64.wrap ((x.devices.length : Int) - 1)))))]⟩)] [4] [] rfl (by (repeat' (first | with_reducible exact AllP.nil | with_reducible refine AllP.mk ?_ ?_ | with_reducible apply And.intro)) <;> skip; (iterate 1 (all_goals try (first | exact (c_impl_InRange c 0 (IntKind.i64.wrap ((x.devices.length : Int) - 1))) | exact fun _ => (c_impl_InRange c 0 (IntKind.i64.wrap ((x.devices.length : Int) - 1))) | exact fun _ _ => (c_impl_InRange c 0 (IntKind.i64.wrap ((x.devices.length : Int) - 1)))))); all_goals (first | (intros; omega) | exact rfl | exact El_all _ (by decide) | exact ⟨rfl, El_all _ (by decide)⟩ | ((intro h1; first | (intro h2; first | (intro h3; refine And.intro ?_ ?_) | refine And.intro ?_ ?_) | refine And.intro ?_ ?_) <;> first | omega | ((try simp only [nb, inr_t, inr_f] at *); (try simp (disch := omega) only [i64w]); omega)) | ((try simp only [nb, inr_t, inr_f] at *); (simp (disch := omega) only [i64w]); omega) | (refine fun _ => ?_; dsimp only [hyps, imps]; omega) | (refine fun _ _ => ?_; dsimp only [hyps, imps]; omega) | exact (u8w _).1 | exact (u8w _).2 | exact (u8n _).1 | exact (u8n _).2 | (simp only [byt, maxLen, lens]; omega) | (intros; simp only [nb] at *; omega))) ?_
  refine W.ret ?_
  exact Fin.ret rfl ⟨by rw [i64w (by omega)]; rfl, ⟨⟩⟩
theorem c_impl_hasPair (x : Wld) (c : Int) (hd : x.devices.length ≤ 1048576) : Sound ty Tryd.prog 82 [.agg (dec_Wld x), .a (.lit (.int .i64 c))] [.a (.lit (.bool (pairOK x c)))] := by
  refine Sound.of X Tryd.call82 Tryd.func82 rfl rfl (by decide) Tryd.ntmps82 (by simp) ?_
  intro zb
  refine W.seq ?_
  refine W.reg X [] [] [1, 2] [] rfl ⟨⟩ ?_
  refine W.seq ?_
  refine W.reg X [] [(7, ⟨false, [.a (.lit (.bool (hasC x c)))]⟩), (12, ⟨false, [.a (.lit (.bool (hasC x (IntKind.i64.wrap (BitVec.ofInt IntKind.i64.bits c ^^^ BitVec.ofInt IntKind.i64.bits 1).toNat))))]⟩)] [4] [] rfl (by (repeat' (first | with_reducible exact AllP.nil | with_reducible refine AllP.mk ?_ ?_ | with_reducible apply And.intro)) <;> skip; (iterate 2 (all_goals try (first | exact (c_impl_hasClient x c) | exact fun _ => (c_impl_hasClient x c) | exact fun _ _ => (c_impl_hasClient x c) | exact (c_impl_hasClient x (IntKind.i64.wrap (BitVec.ofInt IntKind.i64.bits c ^^^ BitVec.ofInt IntKind.i64.bits 1).toNat)) | exact fun _ => (c_impl_hasClient x (IntKind.i64.wrap (BitVec.ofInt IntKind.i64.bits c ^^^ BitVec.ofInt IntKind.i64.bits 1).toNat)) | exact fun _ _ => (c_impl_hasClient x (IntKind.i64.wrap (BitVec.ofInt IntKind.i64.bits c ^^^ BitVec.ofInt IntKind.i64.bits 1).toNat))))); all_goals (first | (intros; omega) | exact rfl | exact El_all _ (by decide) | exact ⟨rfl, El_all _ (by decide)⟩ | ((intro h1; first | (intro h2; first | (intro h3; refine And.intro ?_ ?_) | refine And.intro ?_ ?_) | refine And.intro ?_ ?_) <;> first | omega | ((try simp only [nb, inr_t, inr_f] at *); (try simp (disch := omega) only [i64w]); omega)) | ((try simp only [nb, inr_t, inr_f] at *); (simp (disch := omega) only [i64w]); omega) | (refine fun _ => ?_; dsimp only [hyps, imps]; omega) | (refine fun _ _ => ?_; dsimp only [hyps, imps]; omega) | exact (u8w _).1 | exact (u8w _).2 | exact (u8n _).1 | exact (u8n _).2 | (simp only [byt, maxLen, lens]; omega) | (intros; simp only [nb] at *; omega))) ?_
  refine W.ret ?_
  exact Fin.ret rfl ⟨by rw [ite_ff, pair_impl hd], ⟨⟩⟩
theorem c_impl_UnreadMessages (x : Wld) (hd : x.devices.length ≤ 1048576) : Sound ty Tryd.prog 61 [.agg (dec_Wld x)] [.a (.lit (.int .i64 (unr x.devices x.devices.length)))] := by
  refine Sound.of X Tryd.call61 Tryd.func61 rfl rfl (by decide) Tryd.ntmps61 (by simp) ?_
  intro zb
  refine W.boundA 0 2 rfl rfl (fun hl2 => ?_)
  refine W.seq ?_
  refine W.reg X [] [] [1] [] rfl ⟨⟩ ?_
  refine W.seq ?_
  refine W.reg X [] [] [1, 3] [] rfl ⟨⟩ ?_
  refine W.seq ?_
  refine W.seq ?_
  refine W.reg X [] [] [1, 3, 7, 8, 9] [] rfl ⟨⟩ ?_
  refine W.block ?_
  refine W.loopO (fun k => k ≤ x.devices.length) (fun k : Nat => [(3, .one (.a (.lit (.int .i64 (unr x.devices k))))), (9, .one (.a (.lit (.int .i64 k))))]) (fun k => []) (fun k => x.devices.length - k) 0 (fun k => rfl) (Nat.zero_le _) rfl ?_
  intro k hk
  refine W.seq ?_
  refine W.reg X [] [] [1, 3, 7, 8, 9, 10] [] rfl ⟨⟩ ?_
  refine W.seq ?_
  refine W.cond rfl (fun hb0 => ?_) (fun hb0 => ?_)
  · try simp only [nb, inr_t, inr_f, isEmpty_t] at hb0
    refine W.skip ?_
    refine W.seq ?_
    refine W.block ?_
    refine W.seq ?_
    refine W.reg X [] [] [1, 3, 4, 5, 7, 8, 9] [] rfl (by (repeat' (first | exact True.intro | apply And.intro)) <;> first | (intros; omega) | exact rfl | exact El_all _ (by decide) | exact ⟨rfl, El_all _ (by decide)⟩ | ((intro h1; first | (intro h2; first | (intro h3; refine And.intro ?_ ?_) | refine And.intro ?_ ?_) | refine And.intro ?_ ?_) <;> first | omega | ((try simp only [nb, inr_t, inr_f] at *); (try simp (disch := omega) only [i64w]); omega)) | ((try simp only [nb, inr_t, inr_f] at *); (simp (disch := omega) only [i64w]); omega) | (refine fun _ => ?_; dsimp only [hyps, imps]; omega) | (refine fun _ _ => ?_; dsimp only [hyps, imps]; omega) | exact (u8w _).1 | exact (u8w _).2 | exact (u8n _).1 | exact (u8n _).2 | (simp only [byt, maxLen, lens]; omega) | (intros; simp only [nb] at *; omega)) ?_
    refine W.seq ?_
    refine W.reg X [] [(16, ⟨false, [.a (.lit (.bool (pairOK x (k : Int))))]⟩)] [1, 3, 4, 5, 7, 8, 9, 16] [] rfl (by (repeat' (first | with_reducible exact AllP.nil | with_reducible refine AllP.mk ?_ ?_ | with_reducible apply And.intro)) <;> skip; (iterate 1 (all_goals try (first | exact (c_impl_hasPair x (k : Int) (by first | assumption | omega | (simp; done) | (simp; omega))) | exact fun _ => (c_impl_hasPair x (k : Int) (by first | assumption | omega | (simp; done) | (simp; omega))) | exact fun _ _ => (c_impl_hasPair x (k : Int) (by first | assumption | omega | (simp; done) | (simp; omega)))))); all_goals (first | (intros; omega) | exact rfl | exact El_all _ (by decide) | exact ⟨rfl, El_all _ (by decide)⟩ | ((intro h1; first | (intro h2; first | (intro h3; refine And.intro ?_ ?_) | refine And.intro ?_ ?_) | refine And.intro ?_ ?_) <;> first | omega | ((try simp only [nb, inr_t, inr_f] at *); (try simp (disch := omega) only [i64w]); omega)) | ((try simp only [nb, inr_t, inr_f] at *); (simp (disch := omega) only [i64w]); omega) | (refine fun _ => ?_; dsimp only [hyps, imps]; omega) | (refine fun _ _ => ?_; dsimp only [hyps, imps]; omega) | exact (u8w _).1 | exact (u8w _).2 | exact (u8n _).1 | exact (u8n _).2 | (simp only [byt, maxLen, lens]; omega) | (intros; simp only [nb] at *; omega))) ?_
    refine W.cond rfl (fun hb1 => ?_) (fun hb1 => ?_)
    · rw [pairOK_nat hb0, decide_eq_true_eq] at hb1
      have hx : (IntKind.i64.wrap (BitVec.ofInt IntKind.i64.bits (k : Int) ^^^ BitVec.ofInt IntKind.i64.bits 1).toNat) = ((k ^^^ 1 : Nat) : Int) := xorN k (by omega)
      have hx0 : 0 ≤ (IntKind.i64.wrap (BitVec.ofInt IntKind.i64.bits (k : Int) ^^^ BitVec.ofInt IntKind.i64.bits 1).toNat) ∧ (IntKind.i64.wrap (BitVec.ofInt IntKind.i64.bits (k : Int) ^^^ BitVec.ofInt IntKind.i64.bits 1).toNat) < (x.devices.length : Int) := by rw [hx]; omega
      refine W.draw X [] [] [1, 3, 7, 8, 9] [] 17 MO (by kernel_rfl) rfl (by (repeat' (first | exact True.intro | apply And.intro)) <;> first | (intros; omega) | exact rfl | exact El_all _ (by decide) | exact ⟨rfl, El_all _ (by decide)⟩ | ((intro h1; first | (intro h2; first | (intro h3; refine And.intro ?_ ?_) | refine And.intro ?_ ?_) | refine And.intro ?_ ?_) <;> first | omega | ((try simp only [nb, inr_t, inr_f] at *); (try simp (disch := omega) only [i64w]); omega)) | ((try simp only [nb, inr_t, inr_f] at *); (simp (disch := omega) only [i64w]); omega) | (refine fun _ => ?_; dsimp only [hyps, imps]; omega) | (refine fun _ _ => ?_; dsimp only [hyps, imps]; omega) | exact (u8w _).1 | exact (u8w _).2 | exact (u8n _).1 | exact (u8n _).2 | (simp only [byt, maxLen, lens]; omega) | (intros; simp only [nb] at *; omega)) ?_
      refine W.reg X [] [] [1, 3, 7, 8, 9] [] rfl ⟨⟩ ?_
      refine ⟨k + 1, by omega, by omega, ?_⟩
      rw [wadd _ k rfl (by omega), unr_hit hb1, hx, wrap_sub]
      try rfl
    · rw [pairOK_nat hb0, decide_eq_false_iff_not] at hb1
      refine W.skip ?_
      refine W.reg X [] [] [1, 3, 7, 8, 9] [] rfl ⟨⟩ ?_
      refine ⟨k + 1, by omega, by omega, ?_⟩
      rw [wadd _ k rfl (by omega), unr_miss hb1]
      try rfl
  · try simp only [nb, inr_t, inr_f, isEmpty_t] at hb0
    refine W.exit ?_
    refine W.seq ?_
    refine W.reg X [] [] [2] [] rfl ⟨⟩ ?_
    refine W.ret ?_
    exact Fin.ret rfl ⟨by rw [show k = x.devices.length by omega], ⟨⟩⟩
theorem c_spec_WaitingMessages (c : Cli) : Sound ty Tryd.prog 79 [.agg (dec_Cli c)] [.a (.lit (.int .i64 (waiting c)))] := by
  refine Sound.of X Tryd.call79 Tryd.func79 rfl rfl (by decide) Tryd.ntmps79 (by simp) ?_
  intro zb
  refine W.seq ?_
  refine W.reg X [] [] [1] [] rfl ⟨⟩ ?_
  refine W.seq ?_
  refine W.reg X [] [] [2] [] rfl ⟨⟩ ?_
  refine W.ret ?_
  exact Fin.ret rfl ⟨rfl, ⟨⟩⟩
theorem c_spec_PendingMessages (x : Wld) : Sound ty Tryd.prog 55 [.agg (dec_Wld x)] [.a (.lit (.int .i64 (pend x.devices x.devices.length)))] := by
  refine Sound.of X Tryd.call55 Tryd.func55 rfl rfl (by decide) Tryd.ntmps55 (by simp) ?_
  intro zb
  refine W.boundA 0 2 rfl rfl (fun hl2 => ?_)
  refine W.seq ?_
  refine W.reg X [] [] [1] [] rfl ⟨⟩ ?_
  refine W.seq ?_
  refine W.reg X [] [] [1, 3] [] rfl ⟨⟩ ?_
  refine W.seq ?_
  refine W.seq ?_
  refine W.reg X [] [] [1, 3, 4] [] rfl ⟨⟩ ?_
  refine W.block ?_
  refine W.loopO (fun k => k ≤ x.devices.length) (fun k : Nat => [(3, .one (.a (.lit (.int .i64 (pend x.devices k))))), (4, .one (.a (.lit (.int .i64 k))))]) (fun k => []) (fun k => x.devices.length - k) 0 (fun k => rfl) (Nat.zero_le _) rfl ?_
  intro k hk
  refine W.seq ?_
  refine W.seq ?_
  refine W.reg X [] [] [1, 3, 4, 9] [] rfl ⟨⟩ ?_
  refine W.cond rfl (fun hb0 => ?_) (fun hb0 => ?_)
  · try simp only [nb, inr_t, inr_f, isEmpty_t] at hb0
    refine W.skip ?_
    refine W.seq ?_
    refine W.block ?_
    refine W.reg X [] [(19, ⟨false, [.a (.lit (.int .i64 (waiting ((x.devices.getD k (dfl .Dev)).live))))]⟩)] [1, 3, 4] [] rfl (by (repeat' (first | with_reducible exact AllP.nil | with_reducible refine AllP.mk ?_ ?_ | with_reducible apply And.intro)) <;> skip; (iterate 1 (all_goals try (first | exact (c_spec_WaitingMessages ((x.devices.getD k (dfl .Dev)).live)) | exact fun _ => (c_spec_WaitingMessages ((x.devices.getD k (dfl .Dev)).live)) | exact fun _ _ => (c_spec_WaitingMessages ((x.devices.getD k (dfl .Dev)).live))))); all_goals (first | (intros; omega) | exact rfl | exact El_all _ (by decide) | exact ⟨rfl, El_all _ (by decide)⟩ | ((intro h1; first | (intro h2; first | (intro h3; refine And.intro ?_ ?_) | refine And.intro ?_ ?_) | refine And.intro ?_ ?_) <;> first | omega | ((try simp only [nb, inr_t, inr_f] at *); (try simp (disch := omega) only [i64w]); omega)) | ((try simp only [nb, inr_t, inr_f] at *); (simp (disch := omega) only [i64w]); omega) | (refine fun _ => ?_; dsimp only [hyps, imps]; omega) | (refine fun _ _ => ?_; dsimp only [hyps, imps]; omega) | exact (u8w _).1 | exact (u8w _).2 | exact (u8n _).1 | exact (u8n _).2 | (simp only [byt, maxLen, lens]; omega) | (intros; simp only [nb] at *; omega))) ?_
    refine W.reg X [] [] [1, 3, 4] [] rfl ⟨⟩ ?_
    refine ⟨k + 1, by omega, by omega, ?_⟩
    rw [wadd _ k rfl (by omega)]
    try rfl
  · try simp only [nb, inr_t, inr_f, isEmpty_t] at hb0
    refine W.exit ?_
    refine W.seq ?_
    refine W.reg X [] [] [2] [] rfl ⟨⟩ ?_
    refine W.ret ?_
    exact Fin.ret rfl ⟨by rw [show k = x.devices.length by omega], ⟨⟩⟩
theorem c_spec_UnreadMessages (x : Wld) (hd : x.devices.length ≤ 1048576) : Sound ty Tryd.prog 56 [.agg (dec_Wld x)] [.a (.lit (.int .i64 (unr x.devices x.devices.length)))] := by
  refine Sound.of X Tryd.call56 Tryd.func56 rfl rfl (by decide) Tryd.ntmps56 (by simp) ?_
  intro zb
  refine W.boundA 0 2 rfl rfl (fun hl2 => ?_)
  refine W.seq ?_
  refine W.reg X [] [] [1] [] rfl ⟨⟩ ?_
  refine W.seq ?_
  refine W.reg X [] [] [1, 3] [] rfl ⟨⟩ ?_
  refine W.seq ?_
  refine W.seq ?_
  refine W.reg X [] [] [1, 3, 4] [] rfl ⟨⟩ ?_
  refine W.block ?_
  refine W.loopO (fun k => k ≤ x.devices.length) (fun k : Nat => [(3, .one (.a (.lit (.int .i64 (unr x.devices k))))), (4, .one (.a (.lit (.int .i64 k))))]) (fun k => []) (fun k => x.devices.length - k) 0 (fun k => rfl) (Nat.zero_le _) rfl ?_
  intro k hk
  refine W.seq ?_
  refine W.seq ?_
  refine W.reg X [] [] [1, 3, 4, 9] [] rfl ⟨⟩ ?_
  refine W.cond rfl (fun hb0 => ?_) (fun hb0 => ?_)
  · try simp only [nb, inr_t, inr_f, isEmpty_t] at hb0
    refine W.skip ?_
    refine W.seq ?_
    refine W.block ?_
    refine W.seq ?_
    refine W.reg X [] [] [1, 3, 4, 17] [] rfl ⟨⟩ ?_
    refine W.cond rfl (fun hb1 => ?_) (fun hb1 => ?_)
    · try simp only [nb, inr_t, inr_f, isEmpty_t] at hb1
      have hx : (IntKind.i64.wrap (BitVec.ofInt IntKind.i64.bits (k : Int) ^^^ BitVec.ofInt IntKind.i64.bits 1).toNat) = ((k ^^^ 1 : Nat) : Int) := xorN k (by omega)
      have hx1 : (k ^^^ 1) < x.devices.length := by rw [hx] at hb1; omega
      have hx0 : 0 ≤ (IntKind.i64.wrap (BitVec.ofInt IntKind.i64.bits (k : Int) ^^^ BitVec.ofInt IntKind.i64.bits 1).toNat) ∧ (IntKind.i64.wrap (BitVec.ofInt IntKind.i64.bits (k : Int) ^^^ BitVec.ofInt IntKind.i64.bits 1).toNat) < (x.devices.length : Int) := by rw [hx]; omega
      refine W.draw X [] [] [1, 3, 4] [] 21 MO (by kernel_rfl) rfl (by (repeat' (first | exact True.intro | apply And.intro)) <;> first | (intros; omega) | exact rfl | exact El_all _ (by decide) | exact ⟨rfl, El_all _ (by decide)⟩ | ((intro h1; first | (intro h2; first | (intro h3; refine And.intro ?_ ?_) | refine And.intro ?_ ?_) | refine And.intro ?_ ?_) <;> first | omega | ((try simp only [nb, inr_t, inr_f] at *); (try simp (disch := omega) only [i64w]); omega)) | ((try simp only [nb, inr_t, inr_f] at *); (simp (disch := omega) only [i64w]); omega) | (refine fun _ => ?_; dsimp only [hyps, imps]; omega) | (refine fun _ _ => ?_; dsimp only [hyps, imps]; omega) | exact (u8w _).1 | exact (u8w _).2 | exact (u8n _).1 | exact (u8n _).2 | (simp only [byt, maxLen, lens]; omega) | (intros; simp only [nb] at *; omega)) ?_
      refine W.reg X [] [] [1, 3, 4] [] rfl ⟨⟩ ?_
      refine ⟨k + 1, by omega, by omega, ?_⟩
      rw [wadd _ k rfl (by omega), unr_hit hx1, hx]
      try rfl
    · try simp only [nb, inr_t, inr_f, isEmpty_t] at hb1
      have hx : (IntKind.i64.wrap (BitVec.ofInt IntKind.i64.bits (k : Int) ^^^ BitVec.ofInt IntKind.i64.bits 1).toNat) = ((k ^^^ 1 : Nat) : Int) := xorN k (by omega)
      have hx1 : ¬ (k ^^^ 1) < x.devices.length := by rw [hx] at hb1; omega
      refine W.skip ?_
      refine W.reg X [] [] [1, 3, 4] [] rfl ⟨⟩ ?_
      refine ⟨k + 1, by omega, by omega, ?_⟩
      rw [wadd _ k rfl (by omega), unr_miss hx1]
      try rfl
  · try simp only [nb, inr_t, inr_f, isEmpty_t] at hb0
    refine W.exit ?_
    refine W.seq ?_
    refine W.reg X [] [] [2] [] rfl ⟨⟩ ?_
    refine W.ret ?_
    exact Fin.ret rfl ⟨by rw [show k = x.devices.length by omega], ⟨⟩⟩
theorem c_impl_FormatWorld (x : Wld) (hw1 : I64 x.round) (hw2 : I64 x.cancelled) (hw3 : ∀ y, y ∈ x.replaced → I64 y) (hd : x.devices.length ≤ 1048576) (hl : x.replaced.length ≤ 1048576) : Sound ty Tryd.prog 31 [.agg (dec_Wld x)] [.a (.lit (.string (fWld x)))] := by
  refine Sound.of X Tryd.call31 Tryd.func31 rfl rfl (by decide) Tryd.ntmps31 (by simp) ?_
  intro zb
  have q1 := hw1
  have q2 := hw2
  have z1 := itoa_sz q1
  have z2 := itoa_sz q2
  have q3 := pend_rg x.devices x.devices.length
  have q4 := unr_rg x.devices x.devices.length
  have z3 := itoa_sz q3
  have z4 := itoa_sz q4
  have hlz := lsz_map fInt 21 x.replaced (int_len hw3)
  have hos := orD_sz (x.replaced.map fInt) 44
  have hlm : (x.replaced.map fInt).length = x.replaced.length := List.length_map ..
  refine W.seq ?_
  refine W.reg X [] [] [1] [] rfl ⟨⟩ ?_
  refine W.seq ?_
  refine W.reg X [] [] [1, 3] [] rfl (by (repeat' (first | exact True.intro | apply And.intro)) <;> first | (intros; omega) | exact rfl | exact El_all _ (by decide) | exact ⟨rfl, El_all _ (by decide)⟩ | ((intro h1; first | (intro h2; first | (intro h3; refine And.intro ?_ ?_) | refine And.intro ?_ ?_) | refine And.intro ?_ ?_) <;> first | omega | ((try simp only [nb, inr_t, inr_f] at *); (try simp (disch := omega) only [i64w]); omega)) | ((try simp only [nb, inr_t, inr_f] at *); (simp (disch := omega) only [i64w]); omega) | (refine fun _ => ?_; dsimp only [hyps, imps]; omega) | (refine fun _ _ => ?_; dsimp only [hyps, imps]; omega) | exact (u8w _).1 | exact (u8w _).2 | exact (u8n _).1 | exact (u8n _).2 | (simp only [byt, maxLen, lens]; omega) | (intros; simp only [nb] at *; omega)) ?_
  refine W.seq ?_
  refine W.seq ?_
  refine W.reg X [] [] [1, 3, 8, 9, 10] [] rfl ⟨⟩ ?_
  refine W.block ?_
  refine W.loopO (fun k => k ≤ x.replaced.length) (fun k : Nat => [(10, .one (.a (.lit (.int .i64 k))))]) (fun k => [(6, .arr .str ((x.replaced.map fInt).take k))]) (fun k => x.replaced.length - k) 0 (fun k => rfl) (Nat.zero_le _) rfl ?_
  intro k hk
  have htl : ((x.replaced.map fInt).take k).length ≤ 1048576 := by rw [List.length_take, List.length_map]; omega
  refine W.seq ?_
  refine W.reg X [] [] [1, 3, 8, 9, 10, 11] [] rfl ⟨⟩ ?_
  refine W.seq ?_
  refine W.cond rfl (fun hb0 => ?_) (fun hb0 => ?_)
  · try simp only [nb, inr_t, inr_f, isEmpty_t] at hb0
    have q5 := at_mem hw3 hb0 (dfl .int)
    have z5 := itoa_sz q5
    unfold I64 at q5
    have hat : (x.replaced.map fInt).getD k [] = fInt (x.replaced.getD k (dfl .int)) := map_at fInt hb0 _ _
    have hs : (x.replaced.map fInt).take (k + 1) = (x.replaced.map fInt).take k ++ [fInt (x.replaced.getD k (dfl .int))] := by rw [take_snoc _ k [] (by omega), hat]
    refine W.skip ?_
    refine W.seq ?_
    refine W.block ?_
    refine W.seq ?_
    refine W.reg X [] [] [1, 3, 5, 8, 9, 10] [] rfl (by (repeat' (first | exact True.intro | apply And.intro)) <;> first | (intros; omega) | exact rfl | exact El_all _ (by decide) | exact ⟨rfl, El_all _ (by decide)⟩ | ((intro h1; first | (intro h2; first | (intro h3; refine And.intro ?_ ?_) | refine And.intro ?_ ?_) | refine And.intro ?_ ?_) <;> first | omega | ((try simp only [nb, inr_t, inr_f] at *); (try simp (disch := omega) only [i64w]); omega)) | ((try simp only [nb, inr_t, inr_f] at *); (simp (disch := omega) only [i64w]); omega) | (refine fun _ => ?_; dsimp only [hyps, imps]; omega) | (refine fun _ _ => ?_; dsimp only [hyps, imps]; omega) | exact (u8w _).1 | exact (u8w _).2 | exact (u8n _).1 | exact (u8n _).2 | (simp only [byt, maxLen, lens]; omega) | (intros; simp only [nb] at *; omega)) ?_
    refine W.reg X [(18, 6)] [(16, ⟨false, [.a (.lit (.string (str8 (Lib.itoa (x.replaced.getD k (dfl .int))))))]⟩)] [1, 3, 8, 9, 10] [] rfl (by (repeat' (first | with_reducible exact AllP.nil | with_reducible refine AllP.mk ?_ ?_ | with_reducible apply And.intro)) <;> skip; (iterate 4 (all_goals try (first | exact (c_impl_FormatInt (x.replaced.getD k (dfl .int)) (by first | assumption | omega | (simp; done) | (simp; omega))) | exact fun _ => (c_impl_FormatInt (x.replaced.getD k (dfl .int)) (by first | assumption | omega | (simp; done) | (simp; omega))) | exact fun _ _ => (c_impl_FormatInt (x.replaced.getD k (dfl .int)) (by first | assumption | omega | (simp; done) | (simp; omega))) | exact (by simp only [ByteArray.size_append, c1_sz, max64]; omega) | exact fun _ => (by simp only [ByteArray.size_append, c1_sz, max64]; omega) | exact fun _ _ => (by simp only [ByteArray.size_append, c1_sz, max64]; omega) | exact (by simp only [ByteArray.size_append, c1_sz, maxLen]; omega) | exact fun _ => (by simp only [ByteArray.size_append, c1_sz, maxLen]; omega) | exact fun _ _ => (by simp only [ByteArray.size_append, c1_sz, maxLen]; omega) | exact (by simp only [byt, maxLen, List.length_singleton]; omega) | exact fun _ => (by simp only [byt, maxLen, List.length_singleton]; omega) | exact fun _ _ => (by simp only [byt, maxLen, List.length_singleton]; omega)))); all_goals (first | (intros; omega) | exact rfl | exact El_all _ (by decide) | exact ⟨rfl, El_all _ (by decide)⟩ | ((intro h1; first | (intro h2; first | (intro h3; refine And.intro ?_ ?_) | refine And.intro ?_ ?_) | refine And.intro ?_ ?_) <;> first | omega | ((try simp only [nb, inr_t, inr_f] at *); (try simp (disch := omega) only [i64w]); omega)) | ((try simp only [nb, inr_t, inr_f] at *); (simp (disch := omega) only [i64w]); omega) | (refine fun _ => ?_; dsimp only [hyps, imps]; omega) | (refine fun _ _ => ?_; dsimp only [hyps, imps]; omega) | exact (u8w _).1 | exact (u8w _).2 | exact (u8n _).1 | exact (u8n _).2 | (simp only [byt, maxLen, lens]; omega) | (intros; simp only [nb] at *; omega))) ?_
    refine W.reg X [] [] [1, 3, 8, 9, 10] [] rfl ⟨⟩ ?_
    refine ⟨k + 1, by omega, by omega, ?_⟩
    rw [wadd _ k rfl (by omega), hs]
    try rfl
  · try simp only [nb, inr_t, inr_f, isEmpty_t] at hb0
    have ht : (x.replaced.map fInt).take k = x.replaced.map fInt := List.take_of_length_le (by rw [List.length_map]; omega)
    have hos2 : (orD ((x.replaced.map fInt).take k) 44).size ≤ lsz List.length (x.replaced.map fInt) + 1 := by rw [ht]; exact hos
    refine W.exit ?_
    refine W.seq ?_
    refine W.draw X [] [(22, ⟨false, [.a (.lit (.string (str8 (Lib.itoa x.round))))]⟩), (26, ⟨false, [.a (.lit (.string (str8 (Lib.itoa x.cancelled))))]⟩), (30, ⟨false, [.a (.lit (.string (orD ((x.replaced.map fInt).take k) 44)))]⟩), (34, ⟨false, [.a (.lit (.int .i64 (pend x.devices x.devices.length)))]⟩), (35, ⟨false, [.a (.lit (.string (str8 (Lib.itoa (pend x.devices x.devices.length)))))]⟩), (39, ⟨false, [.a (.lit (.int .i64 (unr x.devices x.devices.length)))]⟩), (40, ⟨false, [.a (.lit (.string (str8 (Lib.itoa (unr x.devices x.devices.length)))))]⟩)] [2] [] 23 MO (by kernel_rfl) rfl (by (repeat' (first | with_reducible exact AllP.nil | with_reducible refine AllP.mk ?_ ?_ | with_reducible apply And.intro)) <;> skip; (iterate 10 (all_goals try (first | exact (c_impl_FormatInt x.round (by first | assumption | omega | (simp; done) | (simp; omega))) | exact fun _ => (c_impl_FormatInt x.round (by first | assumption | omega | (simp; done) | (simp; omega))) | exact fun _ _ => (c_impl_FormatInt x.round (by first | assumption | omega | (simp; done) | (simp; omega))) | exact (c_impl_FormatInt x.cancelled (by first | assumption | omega | (simp; done) | (simp; omega))) | exact fun _ => (c_impl_FormatInt x.cancelled (by first | assumption | omega | (simp; done) | (simp; omega))) | exact fun _ _ => (c_impl_FormatInt x.cancelled (by first | assumption | omega | (simp; done) | (simp; omega))) | exact (c_impl_orDash _ 44 (by rw [ht]; omega)) | exact fun _ => (c_impl_orDash _ 44 (by rw [ht]; omega)) | exact fun _ _ => (c_impl_orDash _ 44 (by rw [ht]; omega)) | exact (c_impl_PendingMessages x) | exact fun _ => (c_impl_PendingMessages x) | exact fun _ _ => (c_impl_PendingMessages x) | exact (c_impl_FormatInt (pend x.devices x.devices.length) (by first | assumption | omega | (simp; done) | (simp; omega))) | exact fun _ => (c_impl_FormatInt (pend x.devices x.devices.length) (by first | assumption | omega | (simp; done) | (simp; omega))) | exact fun _ _ => (c_impl_FormatInt (pend x.devices x.devices.length) (by first | assumption | omega | (simp; done) | (simp; omega))) | exact (c_impl_UnreadMessages x (by first | assumption | omega | (simp; done) | (simp; omega))) | exact fun _ => (c_impl_UnreadMessages x (by first | assumption | omega | (simp; done) | (simp; omega))) | exact fun _ _ => (c_impl_UnreadMessages x (by first | assumption | omega | (simp; done) | (simp; omega))) | exact (c_impl_FormatInt (unr x.devices x.devices.length) (by first | assumption | omega | (simp; done) | (simp; omega))) | exact fun _ => (c_impl_FormatInt (unr x.devices x.devices.length) (by first | assumption | omega | (simp; done) | (simp; omega))) | exact fun _ _ => (c_impl_FormatInt (unr x.devices x.devices.length) (by first | assumption | omega | (simp; done) | (simp; omega))) | exact (by simp only [ByteArray.size_append, c1_sz, max64]; omega) | exact fun _ => (by simp only [ByteArray.size_append, c1_sz, max64]; omega) | exact fun _ _ => (by simp only [ByteArray.size_append, c1_sz, max64]; omega) | exact (by simp only [ByteArray.size_append, c1_sz, maxLen]; omega) | exact fun _ => (by simp only [ByteArray.size_append, c1_sz, maxLen]; omega) | exact fun _ _ => (by simp only [ByteArray.size_append, c1_sz, maxLen]; omega) | exact (by simp only [byt, maxLen, List.length_singleton]; omega) | exact fun _ => (by simp only [byt, maxLen, List.length_singleton]; omega) | exact fun _ _ => (by simp only [byt, maxLen, List.length_singleton]; omega)))); all_goals (first | (intros; omega) | exact rfl | exact El_all _ (by decide) | exact ⟨rfl, El_all _ (by decide)⟩ | ((intro h1; first | (intro h2; first | (intro h3; refine And.intro ?_ ?_) | refine And.intro ?_ ?_) | refine And.intro ?_ ?_) <;> first | omega | ((try simp only [nb, inr_t, inr_f] at *); (try simp (disch := omega) only [i64w]); omega)) | ((try simp only [nb, inr_t, inr_f] at *); (simp (disch := omega) only [i64w]); omega) | (refine fun _ => ?_; dsimp only [hyps, imps]; omega) | (refine fun _ _ => ?_; dsimp only [hyps, imps]; omega) | exact (u8w _).1 | exact (u8w _).2 | exact (u8n _).1 | exact (u8n _).2 | (simp only [byt, maxLen, lens]; omega) | (intros; simp only [nb] at *; omega))) ?_
    refine W.ret ?_
    exact Fin.ret rfl ⟨by rw [ht]; rfl, ⟨⟩⟩
theorem c_spec_FormatWorld (x : Wld) (hw1 : I64 x.round) (hw2 : I64 x.cancelled) (hw3 : ∀ y, y ∈ x.replaced → I64 y) (hd : x.devices.length ≤ 1048576) (hl : x.replaced.length ≤ 1048576) : Sound ty Tryd.prog 29 [.agg (dec_Wld x)] [.a (.lit (.string (fWld x)))] := by
  refine Sound.of X Tryd.call29 Tryd.func29 rfl rfl (by decide) Tryd.ntmps29 (by simp) ?_
  intro zb
  have q1 := hw1
  have q2 := hw2
  have z1 := itoa_sz q1
  have z2 := itoa_sz q2
  have q3 := pend_rg x.devices x.devices.length
  have q4 := unr_rg x.devices x.devices.length
  have z3 := itoa_sz q3
  have z4 := itoa_sz q4
  have hlz := lsz_map fInt 21 x.replaced (int_len hw3)
  have hos := orD_sz (x.replaced.map fInt) 44
  have hlm : (x.replaced.map fInt).length = x.replaced.length := List.length_map ..
  refine W.seq ?_
  refine W.reg X [] [] [1] [] rfl ⟨⟩ ?_
  refine W.seq ?_
  refine W.reg X [] [] [1, 3] [] rfl ⟨⟩ ?_
  refine W.seq ?_
  refine W.seq ?_
  refine W.reg X [] [] [1, 3, 4] [] rfl ⟨⟩ ?_
  refine W.block ?_
  refine W.loopO (fun k => k ≤ x.replaced.length) (fun k : Nat => [(3, .one (.a (.lit (.string (jn (x.replaced.map fInt) 44 k))))), (4, .one (.a (.lit (.int .i64 k))))]) (fun k => []) (fun k => x.replaced.length - k) 0 (fun k => rfl) (Nat.zero_le _) rfl ?_
  intro k hk
  have hjs := jn_sz (x.replaced.map fInt) 44 k
  refine W.seq ?_
  refine W.seq ?_
  refine W.reg X [] [] [1, 3, 4, 9] [] rfl ⟨⟩ ?_
  refine W.cond rfl (fun hb0 => ?_) (fun hb0 => ?_)
  · try simp only [nb, inr_t, inr_f, isEmpty_t] at hb0
    have q5 := at_mem hw3 hb0 (dfl .int)
    have z5 := itoa_sz q5
    unfold I64 at q5
    have hat : (x.replaced.map fInt).getD k [] = fInt (x.replaced.getD k (dfl .int)) := map_at fInt hb0 _ _
    refine W.skip ?_
    refine W.seq ?_
    refine W.block ?_
    refine W.seq ?_
    refine W.seq ?_
    refine W.reg X [] [] [1, 3, 4, 13] [] rfl ⟨⟩ ?_
    refine W.cond rfl (fun hb1 => ?_) (fun hb1 => ?_)
    · try simp only [nb, inr_t, inr_f, isEmpty_t] at hb1
      have hs := jn_step (x.replaced.map fInt) 44 (k := k) (by omega) (by omega)
      rw [hat] at hs
      refine W.reg X [] [] [1, 3, 4] [] rfl (by (repeat' (first | with_reducible exact AllP.nil | with_reducible refine AllP.mk ?_ ?_ | with_reducible apply And.intro)) <;> skip; (iterate 3 (all_goals try (first | exact (by simp only [ByteArray.size_append, c1_sz, max64]; omega) | exact fun _ => (by simp only [ByteArray.size_append, c1_sz, max64]; omega) | exact fun _ _ => (by simp only [ByteArray.size_append, c1_sz, max64]; omega) | exact (by simp only [ByteArray.size_append, c1_sz, maxLen]; omega) | exact fun _ => (by simp only [ByteArray.size_append, c1_sz, maxLen]; omega) | exact fun _ _ => (by simp only [ByteArray.size_append, c1_sz, maxLen]; omega) | exact (by simp only [byt, maxLen, List.length_singleton]; omega) | exact fun _ => (by simp only [byt, maxLen, List.length_singleton]; omega) | exact fun _ _ => (by simp only [byt, maxLen, List.length_singleton]; omega)))); all_goals (first | (intros; omega) | exact rfl | exact El_all _ (by decide) | exact ⟨rfl, El_all _ (by decide)⟩ | ((intro h1; first | (intro h2; first | (intro h3; refine And.intro ?_ ?_) | refine And.intro ?_ ?_) | refine And.intro ?_ ?_) <;> first | omega | ((try simp only [nb, inr_t, inr_f] at *); (try simp (disch := omega) only [i64w]); omega)) | ((try simp only [nb, inr_t, inr_f] at *); (simp (disch := omega) only [i64w]); omega) | (refine fun _ => ?_; dsimp only [hyps, imps]; omega) | (refine fun _ _ => ?_; dsimp only [hyps, imps]; omega) | exact (u8w _).1 | exact (u8w _).2 | exact (u8n _).1 | exact (u8n _).2 | (simp only [byt, maxLen, lens]; omega) | (intros; simp only [nb] at *; omega))) ?_
      refine W.reg X [] [(22, ⟨false, [.a (.lit (.string (str8 (Lib.itoa (x.replaced.getD k (dfl .int))))))]⟩)] [1, 3, 4] [] rfl (by (repeat' (first | with_reducible exact AllP.nil | with_reducible refine AllP.mk ?_ ?_ | with_reducible apply And.intro)) <;> skip; (iterate 4 (all_goals try (first | exact (c_spec_FormatInt (x.replaced.getD k (dfl .int)) (by first | assumption | omega | (simp; done) | (simp; omega))) | exact fun _ => (c_spec_FormatInt (x.replaced.getD k (dfl .int)) (by first | assumption | omega | (simp; done) | (simp; omega))) | exact fun _ _ => (c_spec_FormatInt (x.replaced.getD k (dfl .int)) (by first | assumption | omega | (simp; done) | (simp; omega))) | exact (by simp only [ByteArray.size_append, c1_sz, max64]; omega) | exact fun _ => (by simp only [ByteArray.size_append, c1_sz, max64]; omega) | exact fun _ _ => (by simp only [ByteArray.size_append, c1_sz, max64]; omega) | exact (by simp only [ByteArray.size_append, c1_sz, maxLen]; omega) | exact fun _ => (by simp only [ByteArray.size_append, c1_sz, maxLen]; omega) | exact fun _ _ => (by simp only [ByteArray.size_append, c1_sz, maxLen]; omega) | exact (by simp only [byt, maxLen, List.length_singleton]; omega) | exact fun _ => (by simp only [byt, maxLen, List.length_singleton]; omega) | exact fun _ _ => (by simp only [byt, maxLen, List.length_singleton]; omega)))); all_goals (first | (intros; omega) | exact rfl | exact El_all _ (by decide) | exact ⟨rfl, El_all _ (by decide)⟩ | ((intro h1; first | (intro h2; first | (intro h3; refine And.intro ?_ ?_) | refine And.intro ?_ ?_) | refine And.intro ?_ ?_) <;> first | omega | ((try simp only [nb, inr_t, inr_f] at *); (try simp (disch := omega) only [i64w]); omega)) | ((try simp only [nb, inr_t, inr_f] at *); (simp (disch := omega) only [i64w]); omega) | (refine fun _ => ?_; dsimp only [hyps, imps]; omega) | (refine fun _ _ => ?_; dsimp only [hyps, imps]; omega) | exact (u8w _).1 | exact (u8w _).2 | exact (u8n _).1 | exact (u8n _).2 | (simp only [byt, maxLen, lens]; omega) | (intros; simp only [nb] at *; omega))) ?_
      refine W.reg X [] [] [1, 3, 4] [] rfl ⟨⟩ ?_
      refine ⟨k + 1, by omega, by omega, ?_⟩
      rw [wadd _ k rfl (by omega), hs]
      try rfl
    · try simp only [nb, inr_t, inr_f, isEmpty_t] at hb1
      have hs := jn_first (x.replaced.map fInt) 44 (k := k) (by omega) (by omega)
      rw [hat] at hs
      refine W.skip ?_
      refine W.reg X [] [(22, ⟨false, [.a (.lit (.string (str8 (Lib.itoa (x.replaced.getD k (dfl .int))))))]⟩)] [1, 3, 4] [] rfl (by (repeat' (first | with_reducible exact AllP.nil | with_reducible refine AllP.mk ?_ ?_ | with_reducible apply And.intro)) <;> skip; (iterate 4 (all_goals try (first | exact (c_spec_FormatInt (x.replaced.getD k (dfl .int)) (by first | assumption | omega | (simp; done) | (simp; omega))) | exact fun _ => (c_spec_FormatInt (x.replaced.getD k (dfl .int)) (by first | assumption | omega | (simp; done) | (simp; omega))) | exact fun _ _ => (c_spec_FormatInt (x.replaced.getD k (dfl .int)) (by first | assumption | omega | (simp; done) | (simp; omega))) | exact (by simp only [ByteArray.size_append, c1_sz, max64]; omega) | exact fun _ => (by simp only [ByteArray.size_append, c1_sz, max64]; omega) | exact fun _ _ => (by simp only [ByteArray.size_append, c1_sz, max64]; omega) | exact (by simp only [ByteArray.size_append, c1_sz, maxLen]; omega) | exact fun _ => (by simp only [ByteArray.size_append, c1_sz, maxLen]; omega) | exact fun _ _ => (by simp only [ByteArray.size_append, c1_sz, maxLen]; omega) | exact (by simp only [byt, maxLen, List.length_singleton]; omega) | exact fun _ => (by simp only [byt, maxLen, List.length_singleton]; omega) | exact fun _ _ => (by simp only [byt, maxLen, List.length_singleton]; omega)))); all_goals (first | (intros; omega) | exact rfl | exact El_all _ (by decide) | exact ⟨rfl, El_all _ (by decide)⟩ | ((intro h1; first | (intro h2; first | (intro h3; refine And.intro ?_ ?_) | refine And.intro ?_ ?_) | refine And.intro ?_ ?_) <;> first | omega | ((try simp only [nb, inr_t, inr_f] at *); (try simp (disch := omega) only [i64w]); omega)) | ((try simp only [nb, inr_t, inr_f] at *); (simp (disch := omega) only [i64w]); omega) | (refine fun _ => ?_; dsimp only [hyps, imps]; omega) | (refine fun _ _ => ?_; dsimp only [hyps, imps]; omega) | exact (u8w _).1 | exact (u8w _).2 | exact (u8n _).1 | exact (u8n _).2 | (simp only [byt, maxLen, lens]; omega) | (intros; simp only [nb] at *; omega))) ?_
      refine W.reg X [] [] [1, 3, 4] [] rfl ⟨⟩ ?_
      refine ⟨k + 1, by omega, by omega, ?_⟩
      rw [wadd _ k rfl (by omega), hs]
      try rfl
  · try simp only [nb, inr_t, inr_f, isEmpty_t] at hb0
    refine W.exit ?_
    refine W.seq ?_
    refine W.seq ?_
    refine W.reg X [] [] [1, 3, 25] [] rfl ⟨⟩ ?_
    refine W.cond rfl (fun hb2 => ?_) (fun hb2 => ?_)
    · have hd := dash_t x.replaced 44 hb0 hk (nil_t hb2)
      refine W.reg X [] [] [1, 3] [] rfl ⟨⟩ ?_
      refine W.seq ?_
      refine W.draw X [] [(28, ⟨false, [.a (.lit (.string (str8 (Lib.itoa x.round))))]⟩), (32, ⟨false, [.a (.lit (.string (str8 (Lib.itoa x.cancelled))))]⟩), (39, ⟨false, [.a (.lit (.int .i64 (pend x.devices x.devices.length)))]⟩), (40, ⟨false, [.a (.lit (.string (str8 (Lib.itoa (pend x.devices x.devices.length)))))]⟩), (44, ⟨false, [.a (.lit (.int .i64 (unr x.devices x.devices.length)))]⟩), (45, ⟨false, [.a (.lit (.string (str8 (Lib.itoa (unr x.devices x.devices.length)))))]⟩)] [2] [] 22 MO (by kernel_rfl) rfl (by (repeat' (first | with_reducible exact AllP.nil | with_reducible refine AllP.mk ?_ ?_ | with_reducible apply And.intro)) <;> skip; (iterate 9 (all_goals try (first | exact (c_spec_FormatInt x.round (by first | assumption | omega | (simp; done) | (simp; omega))) | exact fun _ => (c_spec_FormatInt x.round (by first | assumption | omega | (simp; done) | (simp; omega))) | exact fun _ _ => (c_spec_FormatInt x.round (by first | assumption | omega | (simp; done) | (simp; omega))) | exact (c_spec_FormatInt x.cancelled (by first | assumption | omega | (simp; done) | (simp; omega))) | exact fun _ => (c_spec_FormatInt x.cancelled (by first | assumption | omega | (simp; done) | (simp; omega))) | exact fun _ _ => (c_spec_FormatInt x.cancelled (by first | assumption | omega | (simp; done) | (simp; omega))) | exact (c_spec_PendingMessages x) | exact fun _ => (c_spec_PendingMessages x) | exact fun _ _ => (c_spec_PendingMessages x) | exact (c_spec_FormatInt (pend x.devices x.devices.length) (by first | assumption | omega | (simp; done) | (simp; omega))) | exact fun _ => (c_spec_FormatInt (pend x.devices x.devices.length) (by first | assumption | omega | (simp; done) | (simp; omega))) | exact fun _ _ => (c_spec_FormatInt (pend x.devices x.devices.length) (by first | assumption | omega | (simp; done) | (simp; omega))) | exact (c_spec_UnreadMessages x (by first | assumption | omega | (simp; done) | (simp; omega))) | exact fun _ => (c_spec_UnreadMessages x (by first | assumption | omega | (simp; done) | (simp; omega))) | exact fun _ _ => (c_spec_UnreadMessages x (by first | assumption | omega | (simp; done) | (simp; omega))) | exact (c_spec_FormatInt (unr x.devices x.devices.length) (by first | assumption | omega | (simp; done) | (simp; omega))) | exact fun _ => (c_spec_FormatInt (unr x.devices x.devices.length) (by first | assumption | omega | (simp; done) | (simp; omega))) | exact fun _ _ => (c_spec_FormatInt (unr x.devices x.devices.length) (by first | assumption | omega | (simp; done) | (simp; omega))) | exact (by simp only [ByteArray.size_append, c1_sz, max64]; omega) | exact fun _ => (by simp only [ByteArray.size_append, c1_sz, max64]; omega) | exact fun _ _ => (by simp only [ByteArray.size_append, c1_sz, max64]; omega) | exact (by simp only [ByteArray.size_append, c1_sz, maxLen]; omega) | exact fun _ => (by simp only [ByteArray.size_append, c1_sz, maxLen]; omega) | exact fun _ _ => (by simp only [ByteArray.size_append, c1_sz, maxLen]; omega) | exact (by simp only [byt, maxLen, List.length_singleton]; omega) | exact fun _ => (by simp only [byt, maxLen, List.length_singleton]; omega) | exact fun _ _ => (by simp only [byt, maxLen, List.length_singleton]; omega)))); all_goals (first | (intros; omega) | exact rfl | exact El_all _ (by decide) | exact ⟨rfl, El_all _ (by decide)⟩ | ((intro h1; first | (intro h2; first | (intro h3; refine And.intro ?_ ?_) | refine And.intro ?_ ?_) | refine And.intro ?_ ?_) <;> first | omega | ((try simp only [nb, inr_t, inr_f] at *); (try simp (disch := omega) only [i64w]); omega)) | ((try simp only [nb, inr_t, inr_f] at *); (simp (disch := omega) only [i64w]); omega) | (refine fun _ => ?_; dsimp only [hyps, imps]; omega) | (refine fun _ _ => ?_; dsimp only [hyps, imps]; omega) | exact (u8w _).1 | exact (u8w _).2 | exact (u8n _).1 | exact (u8n _).2 | (simp only [byt, maxLen, lens]; omega) | (intros; simp only [nb] at *; omega))) ?_
      refine W.ret ?_
      exact Fin.ret rfl ⟨by unfold fWld; rw [hd]; rfl, ⟨⟩⟩
    · have hd := dash_f x.replaced 44 hb0 hk (nil_f hb2)
      refine W.skip ?_
      refine W.seq ?_
      refine W.draw X [] [(28, ⟨false, [.a (.lit (.string (str8 (Lib.itoa x.round))))]⟩), (32, ⟨false, [.a (.lit (.string (str8 (Lib.itoa x.cancelled))))]⟩), (39, ⟨false, [.a (.lit (.int .i64 (pend x.devices x.devices.length)))]⟩), (40, ⟨false, [.a (.lit (.string (str8 (Lib.itoa (pend x.devices x.devices.length)))))]⟩), (44, ⟨false, [.a (.lit (.int .i64 (unr x.devices x.devices.length)))]⟩), (45, ⟨false, [.a (.lit (.string (str8 (Lib.itoa (unr x.devices x.devices.length)))))]⟩)] [2] [] 22 MO (by kernel_rfl) rfl (by (repeat' (first | with_reducible exact AllP.nil | with_reducible refine AllP.mk ?_ ?_ | with_reducible apply And.intro)) <;> skip; (iterate 9 (all_goals try (first | exact (c_spec_FormatInt x.round (by first | assumption | omega | (simp; done) | (simp; omega))) | exact fun _ => (c_spec_FormatInt x.round (by first | assumption | omega | (simp; done) | (simp; omega))) | exact fun _ _ => (c_spec_FormatInt x.round (by first | assumption | omega | (simp; done) | (simp; omega))) | exact (c_spec_FormatInt x.cancelled (by first | assumption | omega | (simp; done) | (simp; omega))) | exact fun _ => (c_spec_FormatInt x.cancelled (by first | assumption | omega | (simp; done) | (simp; omega))) | exact fun _ _ => (c_spec_FormatInt x.cancelled (by first | assumption | omega | (simp; done) | (simp; omega))) | exact (c_spec_PendingMessages x) | exact fun _ => (c_spec_PendingMessages x) | exact fun _ _ => (c_spec_PendingMessages x) | exact (c_spec_FormatInt (pend x.devices x.devices.length) (by first | assumption | omega | (simp; done) | (simp; omega))) | exact fun _ => (c_spec_FormatInt (pend x.devices x.devices.length) (by first | assumption | omega | (simp; done) | (simp; omega))) | exact fun _ _ => (c_spec_FormatInt (pend x.devices x.devices.length) (by first | assumption | omega | (simp; done) | (simp; omega))) | exact (c_spec_UnreadMessages x (by first | assumption | omega | (simp; done) | (simp; omega))) | exact fun _ => (c_spec_UnreadMessages x (by first | assumption | omega | (simp; done) | (simp; omega))) | exact fun _ _ => (c_spec_UnreadMessages x (by first | assumption | omega | (simp; done) | (simp; omega))) | exact (c_spec_FormatInt (unr x.devices x.devices.length) (by first | assumption | omega | (simp; done) | (simp; omega))) | exact fun _ => (c_spec_FormatInt (unr x.devices x.devices.length) (by first | assumption | omega | (simp; done) | (simp; omega))) | exact fun _ _ => (c_spec_FormatInt (unr x.devices x.devices.length) (by first | assumption | omega | (simp; done) | (simp; omega))) | exact (by simp only [ByteArray.size_append, c1_sz, max64]; omega) | exact fun _ => (by simp only [ByteArray.size_append, c1_sz, max64]; omega) | exact fun _ _ => (by simp only [ByteArray.size_append, c1_sz, max64]; omega) | exact (by simp only [ByteArray.size_append, c1_sz, maxLen]; omega) | exact fun _ => (by simp only [ByteArray.size_append, c1_sz, maxLen]; omega) | exact fun _ _ => (by simp only [ByteArray.size_append, c1_sz, maxLen]; omega) | exact (by simp only [byt, maxLen, List.length_singleton]; omega) | exact fun _ => (by simp only [byt, maxLen, List.length_singleton]; omega) | exact fun _ _ => (by simp only [byt, maxLen, List.length_singleton]; omega)))); all_goals (first | (intros; omega) | exact rfl | exact El_all _ (by decide) | exact ⟨rfl, El_all _ (by decide)⟩ | ((intro h1; first | (intro h2; first | (intro h3; refine And.intro ?_ ?_) | refine And.intro ?_ ?_) | refine And.intro ?_ ?_) <;> first | omega | ((try simp only [nb, inr_t, inr_f] at *); (try simp (disch := omega) only [i64w]); omega)) | ((try simp only [nb, inr_t, inr_f] at *); (simp (disch := omega) only [i64w]); omega) | (refine fun _ => ?_; dsimp only [hyps, imps]; omega) | (refine fun _ _ => ?_; dsimp only [hyps, imps]; omega) | exact (u8w _).1 | exact (u8w _).2 | exact (u8n _).1 | exact (u8n _).2 | (simp only [byt, maxLen, lens]; omega) | (intros; simp only [nb] at *; omega))) ?_
      refine W.ret ?_
      exact Fin.ret rfl ⟨by unfold fWld; rw [← hd]; rfl, ⟨⟩⟩
end Go.Proofs.YtjknhnhcbadigaaDoor.G
namespace Go.Proofs.YtjknhnhcbadigaaDoor.G
set_option linter.all false
open Go.RowKit L D
set_option maxRecDepth 100000
theorem c_FnExactFormatWorld (x0 : Wld) (h_x0 : (wf_Wld) x0) : Sound ty Tryd.prog 7 [.agg (dec_Wld x0)] [.a (.lit (.bool true))] := by
  refine Sound.of X Tryd.call7 Tryd.func7 rfl rfl (by decide) Tryd.ntmps7 (by simp) ?_
  intro zb
  refine W.seq ?_
  refine W.reg X [] [] [1] [] rfl ⟨⟩ ?_
  refine W.seq ?_
  refine W.reg X [] [] [1, 3] [] rfl ⟨⟩ ?_
  refine W.seq ?_
  refine W.reg X [] [(9, ⟨false, [.a (.lit (.int .i64 (szr (1048576) (size_Wld x0))))]⟩)] [1, 3] [] rfl ⟨c_szWorld x0 (1048576) (by omega) (by omega), ⟨⟩⟩ ?_
  refine W.seq ?_
  refine W.seq ?_
  refine W.reg X [] [] [1, 11] [] rfl ⟨⟩ ?_
  refine W.cond rfl (fun hb0 => ?_) (fun hb0 => ?_)
  · try simp only [nb] at hb0
    refine W.seq ?_
    refine W.reg X [] [] [2] [] rfl ⟨⟩ ?_
    refine W.ret ?_
    exact Fin.ret rfl ⟨rfl, ⟨⟩⟩
  · try simp only [nb] at hb0
    obtain ⟨e0, e0'⟩ := szr_pos hb0
    rw [e0]
    have hsz : size_Wld x0 ≤ 1048576 := by omega
    have hmx := mnv_le_Wld x0
    have hdev := dev_le hsz
    have hsrv := srv_le hsz
    have hl : x0.replaced.length ≤ 1048576 := by unfold size_Wld at hsz; omega
    refine W.skip ?_
    refine W.seq ?_
    refine W.reg X [(13, 225)] [(13, ⟨true, [.agg (dec_Wld x0)]⟩), (14, ⟨false, [.a (.lit (.string (fWld x0)))]⟩)] [1, 4] [] rfl ⟨c_spec_FormatWorld x0 h_x0.2.2.2.2.2.2.1 h_x0.2.2.2.2.2.2.2.2 h_x0.2.2.2.2.2.2.2.1 hdev hl, c_toWorld x0 (by omega), ⟨⟩⟩ ?_
    refine W.seq ?_
    refine W.reg X [(16, 275)] [(16, ⟨true, [.agg (dec_Wld x0)]⟩)] [1, 4, 5] [] rfl ⟨c_toWorld x0 (by omega), ⟨⟩⟩ ?_
    refine W.seq ?_
    refine W.reg X [] [(18, ⟨false, [.a (.lit (.string (fWld x0)))]⟩)] [1, 4, 5, 6] [] rfl ⟨c_impl_FormatWorld x0 h_x0.2.2.2.2.2.2.1 h_x0.2.2.2.2.2.2.2.2 h_x0.2.2.2.2.2.2.2.1 hdev hl, ⟨⟩⟩ ?_
    refine W.seq ?_
    refine W.seq ?_
    refine W.reg X [] [] [1, 5, 21] [] rfl ⟨⟩ ?_
    refine W.cond rfl (fun hb1 => ?_) (fun hb1 => ?_)
    · exact absurd hb1 (by first | (simp; done) | (simp; omega))
    · clear hb1
      refine W.skip ?_
      refine W.seq ?_
      refine W.seq ?_
      refine W.draw X [(24, 325)] [(24, ⟨true, [.agg (dec_Wld x0)]⟩), (25, ⟨false, [.a (.lit (.bool true))]⟩)] [26] [] 5 MO (by kernel_rfl) rfl ⟨c_eqWorld x0, c_toWorld x0 (by omega), ⟨⟩⟩ ?_
      refine W.cond rfl (fun hb2 => ?_) (fun hb2 => ?_)
      · exact absurd hb2 (by first | (simp; done) | (simp; omega))
      · clear hb2
        refine W.skip ?_
        refine W.seq ?_
        refine W.reg X [] [] [2] [] rfl ⟨⟩ ?_
        refine W.ret ?_
        exact Fin.ret rfl ⟨rfl, ⟨⟩⟩
end Go.Proofs.YtjknhnhcbadigaaDoor.G
