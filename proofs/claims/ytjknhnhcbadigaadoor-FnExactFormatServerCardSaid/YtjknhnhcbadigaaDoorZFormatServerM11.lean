/-
  FnExactFormatServer, walked by the symbolic machine: it returns true.
-/
import Derived.Test.YtjknhnhcbadigaaDoorZFormatServerM9
import Derived.Test.YtjknhnhcbadigaaDoorZFormatServerM10
import Derived.Sort.Grow
namespace Go.Proofs.YtjknhnhcbadigaaDoor.G
set_option linter.all false
open Go.RowKit L D
theorem amb_tab {w : World} (h : Amb w) : Lib.TabIs Tryd.prog w "internal/strconv.uint64pow10" .u64 Lib.pow10Tab := by
  obtain ⟨e, k, h⟩ := h
  unfold Lib.TabIs World.var?
  rw [show Tryd.prog.globalNamed "internal/strconv.uint64pow10" = some 0 by kernel_rfl]
  simp only [Option.bind_some, h]
theorem grown_below (w : World) (k : Nat) (os : Array Go.Obj) : Below w.heap.size w (Sort.grow (w.drewN k) os) := by
  refine ⟨rfl, rfl, rfl, ?_, fun j hj => ?_⟩
  · show w.heap.size ≤ (w.heap ++ os).size
    rw [Array.size_append]; omega
  · show (w.heap ++ os)[j]? = w.heap[j]?
    rw [Array.getElem?_append_left hj]
theorem c_strconv_Itoa (n : Int) (h : -9223372036854775808 ≤ n ∧ n ≤ 9223372036854775807) : Sound ty Tryd.prog 67 [.a (.lit (.int .i64 n))] [.a (.lit (.string (str8 (Lib.itoa n))))] := by
  refine ⟨Tryd.call67, ?_⟩
  intro w us hA ha
  match us, ha with
  | [u], ⟨h1, _⟩ =>
    obtain ⟨_, rfl, _, _⟩ := h1
    refine (Tryd.strconv_Itoa n h.1 h.2 w (amb_tab hA)).mono ?_
    rintro e w' ⟨rfl, k, os, rfl⟩
    exact ⟨_, [], rfl, grown_below w k os, Own.nil _ _, ⟨[], [], ⟨rfl, rfl, rfl⟩, rfl, rfl⟩⟩
/-- The digits of a number that is not 0. -/
def dd (x : Int) : List UInt8 := if x = 0 then [] else Lib.decDigits x.natAbs
theorem dd_step {x : Int} (hx : x ≠ 0) : dd x = dd (x.tdiv 10) ++ [UInt8.ofNat (48 + x.natAbs % 10)] := by
  have e : (x.tdiv 10).natAbs = x.natAbs / 10 := by rw [Int.natAbs_tdiv]; rfl
  have h0 : x.tdiv 10 = 0 ↔ x.natAbs < 10 := by
    rw [← Int.natAbs_eq_zero, e]; omega
  unfold dd
  rw [if_neg hx]
  by_cases hs : x.natAbs < 10
  · rw [if_pos (h0.2 hs), Lib.decDigits, dif_pos hs, List.nil_append, Nat.mod_eq_of_lt hs]
  · rw [if_neg (fun h => hs (h0.1 h)), e, Lib.decDigits, dif_neg hs]
theorem dd_len : ∀ (n : Nat) (x : Int), x.natAbs ≤ n → x.natAbs < 10 ^ 20 → (dd x).length ≤ 20 := by
  intro n x _ hx
  have key : ∀ (k u : Nat), u < 10 ^ (k + 1) → (Lib.decDigits u).length ≤ k + 1 := by
    intro k
    induction k with
    | zero => intro u hu; rw [Lib.decDigits, dif_pos (by omega)]; simp
    | succ k ih =>
      intro u hu
      rw [Lib.decDigits]
      split
      · simp
      · rw [List.length_append]
        have := ih (u / 10) (by rw [Nat.pow_succ] at hu; omega)
        simp only [List.length_cons, List.length_nil]; omega
  unfold dd
  split
  · simp
  · exact key 19 _ hx
theorem itoa_dd {n : Int} (h : n ≠ 0) : Lib.itoa n = (if n < 0 then [45] else []) ++ dd n := by
  unfold Lib.itoa dd
  rw [if_neg h]
  split
  · rfl
  · rw [List.nil_append]; congr 1; omega
theorem itoa_zero : Lib.itoa 0 = [48] := by
  unfold Lib.itoa; rw [if_neg (by decide), Lib.decDigits, dif_pos (by decide)]; rfl
theorem itoa_len {n : Int} (h : -9223372036854775808 ≤ n ∧ n ≤ 9223372036854775807) : (Lib.itoa n).length ≤ 21 := by
  by_cases h0 : n = 0
  · subst h0; rw [itoa_zero]; decide
  · rw [itoa_dd h0, List.length_append]
    have := dd_len n.natAbs n (Nat.le_refl _) (by omega)
    split <;> simp <;> omega
/-- A digit's byte, as the reference makes it. -/
theorem digit_pos {x : Int} (h : -9223372036854775808 ≤ x ∧ x ≤ 9223372036854775807) (hd : ¬ x.tmod 10 < 0) : UInt8.ofNat (IntKind.u8.wrap (IntKind.i64.wrap (48 + x.tmod 10))).toNat = UInt8.ofNat (48 + x.natAbs % 10) := by
  have h1 : (x.tmod 10).natAbs = x.natAbs % 10 := by rw [Int.natAbs_tmod]; rfl
  have hb : x.tmod 10 = ((x.natAbs % 10 : Nat) : Int) := by omega
  have hlt : x.natAbs % 10 < 10 := Nat.mod_lt _ (by decide)
  rw [hb, i64w (by omega)]
  rw [u8w_eq]
  congr 1; omega
theorem digit_neg {x : Int} (h : -9223372036854775808 ≤ x ∧ x ≤ 9223372036854775807) (hd : x.tmod 10 < 0) : UInt8.ofNat (IntKind.u8.wrap (IntKind.i64.wrap (48 + IntKind.i64.wrap (0 - x.tmod 10)))).toNat = UInt8.ofNat (48 + x.natAbs % 10) := by
  have h1 : (x.tmod 10).natAbs = x.natAbs % 10 := by rw [Int.natAbs_tmod]; rfl
  have hb : 0 - x.tmod 10 = ((x.natAbs % 10 : Nat) : Int) := by omega
  have hlt : x.natAbs % 10 < 10 := Nat.mod_lt _ (by decide)
  rw [hb, i64w (a := ((x.natAbs % 10 : Nat) : Int)) (by omega), i64w (by omega)]
  rw [u8w_eq]
  congr 1; omega
theorem cat_ok (a b : List UInt8) (h : a.length + b.length ≤ 1099511627776) : (((str8 a).size + (str8 b).size : Nat) : Int) ≤ IntKind.i64.max := by
  rw [str8_size, str8_size, max64]; omega
theorem c1_sz (c : UInt8) : (⟨#[c]⟩ : ByteArray).size = 1 := rfl
theorem itoa_sz {n : Int} (h : -9223372036854775808 ≤ n ∧ n ≤ 9223372036854775807) : (str8 (Lib.itoa n)).size ≤ 21 := itoa_len h
/-- honest, drops, alters, lies. -/
def names : List (List UInt8) := [[104, 111, 110, 101, 115, 116], [100, 114, 111, 112, 115], [97, 108, 116, 101, 114, 115], [108, 105, 101, 115]]
theorem name_sz (k : Nat) : (str8 (names.getD k [])).size ≤ 6 := by
  rw [str8_size]
  match k with
  | 0 => decide
  | 1 => decide
  | 2 => decide
  | 3 => decide
  | n + 4 => exact Nat.zero_le _
def beh (b : Int) : ByteArray := if inr b 0 3 = true then str8 (names.getD b.toNat []) else str8 [63]
def fSrv (x : Srv) : ByteArray := str8 (Lib.itoa x.id) ++ str8 [32] ++ str8 (Lib.itoa x.round) ++ str8 [32] ++ beh x.behavior
end Go.Proofs.YtjknhnhcbadigaaDoor.G
namespace Go.Proofs.YtjknhnhcbadigaaDoor.G
set_option linter.all false
open Go.RowKit L D
set_option maxRecDepth 100000
theorem c_impl_FormatInt (n : Int) (h : -9223372036854775808 ≤ n ∧ n ≤ 9223372036854775807) : Sound ty Tryd.prog 36 [.a (.lit (.int .i64 n))] [.a (.lit (.string (str8 (Lib.itoa n))))] := by
  refine Sound.of X Tryd.call36 Tryd.func36 rfl rfl (by decide) Tryd.ntmps36 (by simp) ?_
  intro zb
  refine W.seq ?_
  refine W.reg X [] [] [0] [] rfl ⟨⟩ ?_
  refine W.seq ?_
  refine W.reg X [] [(4, ⟨false, [.a (.lit (.string (str8 (Lib.itoa n))))]⟩)] [2] [] rfl (by (repeat' (first | with_reducible exact AllP.nil | with_reducible refine AllP.mk ?_ ?_ | with_reducible apply And.intro)) <;> skip; (iterate 1 (all_goals try (first | exact (c_strconv_Itoa n h) | exact fun _ => (c_strconv_Itoa n h) | exact fun _ _ => (c_strconv_Itoa n h)))); all_goals (first | (intros; omega) | exact rfl | exact El_all _ (by decide) | exact ⟨rfl, El_all _ (by decide)⟩ | ((intro h1; first | (intro h2; first | (intro h3; refine And.intro ?_ ?_) | refine And.intro ?_ ?_) | refine And.intro ?_ ?_) <;> first | omega | ((try simp only [nb, inr_t, inr_f] at *); (try simp (disch := omega) only [i64w]); omega)) | ((try simp only [nb, inr_t, inr_f] at *); (simp (disch := omega) only [i64w]); omega) | (refine fun _ => ?_; dsimp only [hyps, imps]; omega) | (refine fun _ _ => ?_; dsimp only [hyps, imps]; omega) | exact (u8w _).1 | exact (u8w _).2 | exact (u8n _).1 | exact (u8n _).2 | (simp only [byt, maxLen, lens]; omega) | (intros; simp only [nb] at *; omega))) ?_
  refine W.ret ?_
  exact Fin.ret rfl ⟨rfl, ⟨⟩⟩
theorem c_spec_FormatInt (n : Int) (h : -9223372036854775808 ≤ n ∧ n ≤ 9223372036854775807) : Sound ty Tryd.prog 34 [.a (.lit (.int .i64 n))] [.a (.lit (.string (str8 (Lib.itoa n))))] := by
  refine Sound.of X Tryd.call34 Tryd.func34 rfl rfl (by decide) Tryd.ntmps34 (by simp) ?_
  intro zb
  refine W.seq ?_
  refine W.reg X [] [] [0] [] rfl ⟨⟩ ?_
  refine W.seq ?_
  refine W.seq ?_
  refine W.reg X [] [] [0, 7] [] rfl ⟨⟩ ?_
  refine W.cond rfl (fun hb0 => ?_) (fun hb0 => ?_)
  · try simp only [nb, inr_t, inr_f, isEmpty_t] at hb0
    refine W.seq ?_
    refine W.reg X [] [] [2] [] rfl ⟨⟩ ?_
    refine W.ret ?_
    exact Fin.ret rfl ⟨by rw [show n = 0 by omega, itoa_zero]; rfl, ⟨⟩⟩
  · try simp only [nb, inr_t, inr_f, isEmpty_t] at hb0
    refine W.skip ?_
    refine W.seq ?_
    refine W.reg X [] [] [0, 3] [] rfl ⟨⟩ ?_
    refine W.seq ?_
    refine W.seq ?_
    refine W.reg X [] [] [0, 3, 4] [] rfl ⟨⟩ ?_
    refine W.block ?_
    refine W.loopO (fun k => dd k.1 ++ k.2 = dd n ∧ k.1.natAbs ≤ n.natAbs ∧ -9223372036854775808 ≤ k.1 ∧ k.1 ≤ 9223372036854775807) (fun k : (Int × List UInt8) => [(3, .one (.a (.lit (.string (str8 k.2))))), (4, .one (.a (.lit (.int .i64 k.1))))]) (fun k => []) (fun k => k.1.natAbs) (n, []) (fun k => rfl) ⟨by simp, Nat.le_refl _, h.1, h.2⟩ rfl ?_
    rintro k ⟨hdd, hle, hl1, hl2⟩
    refine W.seq ?_
    refine W.seq ?_
    refine W.reg X [] [] [0, 3, 4, 10] [] rfl ⟨⟩ ?_
    refine W.cond rfl (fun hb1 => ?_) (fun hb1 => ?_)
    · try simp only [nb, inr_t, inr_f, isEmpty_t] at hb1
      have hdl := dd_len n.natAbs n (Nat.le_refl _) (by omega)
      have hkl : k.2.length ≤ 20 := by have := congrArg List.length hdd; rw [List.length_append] at this; omega
      refine W.skip ?_
      refine W.seq ?_
      refine W.block ?_
      refine W.seq ?_
      refine W.reg X [] [] [0, 3, 4, 5] [] rfl (by (repeat' (first | exact True.intro | apply And.intro)) <;> first | (intros; omega) | exact rfl | exact El_all _ (by decide) | exact ⟨rfl, El_all _ (by decide)⟩ | ((intro h1; first | (intro h2; first | (intro h3; refine And.intro ?_ ?_) | refine And.intro ?_ ?_) | refine And.intro ?_ ?_) <;> first | omega | ((try simp only [nb, inr_t, inr_f] at *); (try simp (disch := omega) only [i64w]); omega)) | ((try simp only [nb, inr_t, inr_f] at *); (simp (disch := omega) only [i64w]); omega) | (refine fun _ => ?_; dsimp only [hyps, imps]; omega) | (refine fun _ _ => ?_; dsimp only [hyps, imps]; omega) | exact (u8w _).1 | exact (u8w _).2 | exact (u8n _).1 | exact (u8n _).2 | (simp only [byt, maxLen, lens]; omega) | (intros; simp only [nb] at *; omega)) ?_
      refine W.seq ?_
      refine W.seq ?_
      refine W.reg X [] [] [0, 3, 4, 5, 16] [] rfl ⟨⟩ ?_
      refine W.cond rfl (fun hb2 => ?_) (fun hb2 => ?_)
      · try simp only [nb, inr_t, inr_f, isEmpty_t] at hb2
        refine W.reg X [] [] [0, 3, 4, 5] [] rfl ⟨⟩ ?_
        refine W.reg X [] [] [0, 3, 4] [] rfl (by (repeat' (first | with_reducible exact AllP.nil | with_reducible refine AllP.mk ?_ ?_ | with_reducible apply And.intro)) <;> skip; (iterate 1 (all_goals try (first | exact cat_ok _ _ (by simp only [List.length_cons, List.length_nil, List.length_append]; omega) | exact fun _ => cat_ok _ _ (by simp only [List.length_cons, List.length_nil, List.length_append]; omega) | exact fun _ _ => cat_ok _ _ (by simp only [List.length_cons, List.length_nil, List.length_append]; omega)))); all_goals (first | (intros; omega) | exact rfl | exact El_all _ (by decide) | exact ⟨rfl, El_all _ (by decide)⟩ | ((intro h1; first | (intro h2; first | (intro h3; refine And.intro ?_ ?_) | refine And.intro ?_ ?_) | refine And.intro ?_ ?_) <;> first | omega | ((try simp only [nb, inr_t, inr_f] at *); (try simp (disch := omega) only [i64w]); omega)) | ((try simp only [nb, inr_t, inr_f] at *); (simp (disch := omega) only [i64w]); omega) | (refine fun _ => ?_; dsimp only [hyps, imps]; omega) | (refine fun _ _ => ?_; dsimp only [hyps, imps]; omega) | exact (u8w _).1 | exact (u8w _).2 | exact (u8n _).1 | exact (u8n _).2 | (simp only [byt, maxLen, lens]; omega) | (intros; simp only [nb] at *; omega))) ?_
        refine W.reg X [] [] [0, 3, 4] [] rfl (by (repeat' (first | exact True.intro | apply And.intro)) <;> first | (intros; omega) | exact rfl | exact El_all _ (by decide) | exact ⟨rfl, El_all _ (by decide)⟩ | ((intro h1; first | (intro h2; first | (intro h3; refine And.intro ?_ ?_) | refine And.intro ?_ ?_) | refine And.intro ?_ ?_) <;> first | omega | ((try simp only [nb, inr_t, inr_f] at *); (try simp (disch := omega) only [i64w]); omega)) | ((try simp only [nb, inr_t, inr_f] at *); (simp (disch := omega) only [i64w]); omega) | (refine fun _ => ?_; dsimp only [hyps, imps]; omega) | (refine fun _ _ => ?_; dsimp only [hyps, imps]; omega) | exact (u8w _).1 | exact (u8w _).2 | exact (u8n _).1 | exact (u8n _).2 | (simp only [byt, maxLen, lens]; omega) | (intros; simp only [nb] at *; omega)) ?_
        have hdg := digit_neg ⟨hl1, hl2⟩ (by omega)
        have hst := dd_step hb1
        have hqa : (k.1.tdiv 10).natAbs = k.1.natAbs / 10 := by rw [Int.natAbs_tdiv]; rfl
        have hk0 : 0 < k.1.natAbs := by omega
        refine ⟨(k.1.tdiv 10, [UInt8.ofNat (48 + k.1.natAbs % 10)] ++ k.2), ⟨by rw [← List.append_assoc, ← hst]; exact hdd, by omega, by omega, by omega⟩, by show (k.1.tdiv 10).natAbs < k.1.natAbs; omega, ?_⟩
        rw [str8_app, hdg, i64w (a := k.1.tdiv 10) (by omega)]
      · try simp only [nb, inr_t, inr_f, isEmpty_t] at hb2
        refine W.skip ?_
        refine W.reg X [] [] [0, 3, 4] [] rfl (by (repeat' (first | with_reducible exact AllP.nil | with_reducible refine AllP.mk ?_ ?_ | with_reducible apply And.intro)) <;> skip; (iterate 1 (all_goals try (first | exact cat_ok _ _ (by simp only [List.length_cons, List.length_nil, List.length_append]; omega) | exact fun _ => cat_ok _ _ (by simp only [List.length_cons, List.length_nil, List.length_append]; omega) | exact fun _ _ => cat_ok _ _ (by simp only [List.length_cons, List.length_nil, List.length_append]; omega)))); all_goals (first | (intros; omega) | exact rfl | exact El_all _ (by decide) | exact ⟨rfl, El_all _ (by decide)⟩ | ((intro h1; first | (intro h2; first | (intro h3; refine And.intro ?_ ?_) | refine And.intro ?_ ?_) | refine And.intro ?_ ?_) <;> first | omega | ((try simp only [nb, inr_t, inr_f] at *); (try simp (disch := omega) only [i64w]); omega)) | ((try simp only [nb, inr_t, inr_f] at *); (simp (disch := omega) only [i64w]); omega) | (refine fun _ => ?_; dsimp only [hyps, imps]; omega) | (refine fun _ _ => ?_; dsimp only [hyps, imps]; omega) | exact (u8w _).1 | exact (u8w _).2 | exact (u8n _).1 | exact (u8n _).2 | (simp only [byt, maxLen, lens]; omega) | (intros; simp only [nb] at *; omega))) ?_
        refine W.reg X [] [] [0, 3, 4] [] rfl (by (repeat' (first | exact True.intro | apply And.intro)) <;> first | (intros; omega) | exact rfl | exact El_all _ (by decide) | exact ⟨rfl, El_all _ (by decide)⟩ | ((intro h1; first | (intro h2; first | (intro h3; refine And.intro ?_ ?_) | refine And.intro ?_ ?_) | refine And.intro ?_ ?_) <;> first | omega | ((try simp only [nb, inr_t, inr_f] at *); (try simp (disch := omega) only [i64w]); omega)) | ((try simp only [nb, inr_t, inr_f] at *); (simp (disch := omega) only [i64w]); omega) | (refine fun _ => ?_; dsimp only [hyps, imps]; omega) | (refine fun _ _ => ?_; dsimp only [hyps, imps]; omega) | exact (u8w _).1 | exact (u8w _).2 | exact (u8n _).1 | exact (u8n _).2 | (simp only [byt, maxLen, lens]; omega) | (intros; simp only [nb] at *; omega)) ?_
        have hdg := digit_pos ⟨hl1, hl2⟩ (by omega)
        have hst := dd_step hb1
        have hqa : (k.1.tdiv 10).natAbs = k.1.natAbs / 10 := by rw [Int.natAbs_tdiv]; rfl
        have hk0 : 0 < k.1.natAbs := by omega
        refine ⟨(k.1.tdiv 10, [UInt8.ofNat (48 + k.1.natAbs % 10)] ++ k.2), ⟨by rw [← List.append_assoc, ← hst]; exact hdd, by omega, by omega, by omega⟩, by show (k.1.tdiv 10).natAbs < k.1.natAbs; omega, ?_⟩
        rw [str8_app, hdg, i64w (a := k.1.tdiv 10) (by omega)]
    · try simp only [nb, inr_t, inr_f, isEmpty_t] at hb1
      have hdl := dd_len n.natAbs n (Nat.le_refl _) (by omega)
      have hkl : k.2.length ≤ 20 := by have := congrArg List.length hdd; rw [List.length_append] at this; omega
      refine W.exit ?_
      refine W.seq ?_
      refine W.seq ?_
      refine W.reg X [] [] [3, 27] [] rfl ⟨⟩ ?_
      refine W.cond rfl (fun hb3 => ?_) (fun hb3 => ?_)
      · try simp only [nb, inr_t, inr_f, isEmpty_t] at hb3
        refine W.seq ?_
        refine W.reg X [] [] [2] [] rfl (by (repeat' (first | with_reducible exact AllP.nil | with_reducible refine AllP.mk ?_ ?_ | with_reducible apply And.intro)) <;> skip; (iterate 1 (all_goals try (first | exact cat_ok _ _ (by simp only [List.length_cons, List.length_nil, List.length_append]; omega) | exact fun _ => cat_ok _ _ (by simp only [List.length_cons, List.length_nil, List.length_append]; omega) | exact fun _ _ => cat_ok _ _ (by simp only [List.length_cons, List.length_nil, List.length_append]; omega)))); all_goals (first | (intros; omega) | exact rfl | exact El_all _ (by decide) | exact ⟨rfl, El_all _ (by decide)⟩ | ((intro h1; first | (intro h2; first | (intro h3; refine And.intro ?_ ?_) | refine And.intro ?_ ?_) | refine And.intro ?_ ?_) <;> first | omega | ((try simp only [nb, inr_t, inr_f] at *); (try simp (disch := omega) only [i64w]); omega)) | ((try simp only [nb, inr_t, inr_f] at *); (simp (disch := omega) only [i64w]); omega) | (refine fun _ => ?_; dsimp only [hyps, imps]; omega) | (refine fun _ _ => ?_; dsimp only [hyps, imps]; omega) | exact (u8w _).1 | exact (u8w _).2 | exact (u8n _).1 | exact (u8n _).2 | (simp only [byt, maxLen, lens]; omega) | (intros; simp only [nb] at *; omega))) ?_
        refine W.ret ?_
        exact Fin.ret rfl ⟨by rw [itoa_dd hb0, if_pos hb3, ← hdd, show k.1 = 0 by omega]; exact congrArg Value.string (str8_app [45] k.2), ⟨⟩⟩
      · try simp only [nb, inr_t, inr_f, isEmpty_t] at hb3
        refine W.skip ?_
        refine W.seq ?_
        refine W.reg X [] [] [2] [] rfl ⟨⟩ ?_
        refine W.ret ?_
        exact Fin.ret rfl ⟨by rw [itoa_dd hb0, if_neg (by omega), ← hdd, show k.1 = 0 by omega]; rfl, ⟨⟩⟩
end Go.Proofs.YtjknhnhcbadigaaDoor.G
namespace Go.Proofs.YtjknhnhcbadigaaDoor.G
set_option linter.all false
open Go.RowKit L D
set_option maxRecDepth 100000
theorem c_impl_InRange (x lo hi : Int) : Sound ty Tryd.prog 44 [.a (.lit (.int .i64 x)), .a (.lit (.int .i64 lo)), .a (.lit (.int .i64 hi))] [.a (.lit (.bool (inr x lo hi)))] := by
  refine Sound.of X Tryd.call44 Tryd.func44 rfl rfl (by decide) Tryd.ntmps44 (by simp) ?_
  intro zb
  refine W.seq ?_
  refine W.reg X [] [] [0, 1, 2] [] rfl ⟨⟩ ?_
  refine W.seq ?_
  refine W.reg X [] [] [6] [] rfl ⟨⟩ ?_
  refine W.ret ?_
  exact Fin.ret rfl ⟨rfl, ⟨⟩⟩
theorem c_spec_l1In (x lo hi : Int) : Sound ty Tryd.prog 42 [.a (.lit (.int .i64 x)), .a (.lit (.int .i64 lo)), .a (.lit (.int .i64 hi))] [.a (.lit (.bool (inr x lo hi)))] := by
  refine Sound.of X Tryd.call42 Tryd.func42 rfl rfl (by decide) Tryd.ntmps42 (by simp) ?_
  intro zb
  refine W.seq ?_
  refine W.reg X [] [] [0, 1, 2] [] rfl ⟨⟩ ?_
  refine W.seq ?_
  refine W.reg X [] [] [6] [] rfl ⟨⟩ ?_
  refine W.ret ?_
  exact Fin.ret rfl ⟨rfl, ⟨⟩⟩
theorem c_impl_behaviorNames  : Sound ty Tryd.prog 45 [] [.a (.sl .str names)] := by
  refine Sound.of X Tryd.call45 Tryd.func45 rfl rfl (by decide) Tryd.ntmps45 (by simp) ?_
  intro zb
  refine W.seq ?_
  refine W.reg X [] [] [] [] rfl ⟨⟩ ?_
  refine W.seq ?_
  refine W.reg X [] [] [0] [] rfl ⟨⟨rfl, El_all _ (by decide)⟩, by decide, by decide, by decide, by decide, ⟨⟩⟩ ?_
  refine W.ret ?_
  exact Fin.ret rfl ⟨rfl, ⟨⟩⟩
theorem c_impl_FormatServer (x : Srv) (hw : wf_Srv x) : Sound ty Tryd.prog 21 [.agg (dec_Srv x)] [.a (.lit (.string (fSrv x)))] := by
  refine Sound.of X Tryd.call21 Tryd.func21 rfl rfl (by decide) Tryd.ntmps21 (by simp) ?_
  intro zb
  obtain ⟨h1, _, h3, _, h5⟩ := hw
  have z1 := itoa_sz h1
  have z2 := itoa_sz h3
  have z3 := name_sz x.behavior.toNat
  unfold I64 at h1 h3 h5
  refine W.seq ?_
  refine W.reg X [] [] [1] [] rfl ⟨⟩ ?_
  refine W.seq ?_
  refine W.reg X [] [] [1, 3] [] rfl ⟨⟩ ?_
  refine W.seq ?_
  refine W.seq ?_
  refine W.reg X [] [(6, ⟨false, [.a (.lit (.bool (inr x.behavior 0 3)))]⟩)] [1, 3, 6] [] rfl (by (repeat' (first | with_reducible exact AllP.nil | with_reducible refine AllP.mk ?_ ?_ | with_reducible apply And.intro)) <;> skip; (iterate 1 (all_goals try (first | exact (c_impl_InRange x.behavior 0 3) | exact fun _ => (c_impl_InRange x.behavior 0 3) | exact fun _ _ => (c_impl_InRange x.behavior 0 3)))); all_goals (first | (intros; omega) | exact rfl | exact El_all _ (by decide) | exact ⟨rfl, El_all _ (by decide)⟩ | ((intro h1; first | (intro h2; first | (intro h3; refine And.intro ?_ ?_) | refine And.intro ?_ ?_) | refine And.intro ?_ ?_) <;> first | omega | ((try simp only [nb, inr_t, inr_f] at *); (try simp (disch := omega) only [i64w]); omega)) | ((try simp only [nb, inr_t, inr_f] at *); (simp (disch := omega) only [i64w]); omega) | (refine fun _ => ?_; dsimp only [hyps, imps]; omega) | (refine fun _ _ => ?_; dsimp only [hyps, imps]; omega) | exact (u8w _).1 | exact (u8w _).2 | exact (u8n _).1 | exact (u8n _).2 | (simp only [byt, maxLen, lens]; omega) | (intros; simp only [nb] at *; omega))) ?_
  refine W.cond rfl (fun hb0 => ?_) (fun hb0 => ?_)
  · have z4 : (⟨List.toArray (names.getD x.behavior.toNat (dfl Tag.str))⟩ : ByteArray).size ≤ 6 := z3
    have z5 : (⟨List.toArray ([[104, 111, 110, 101, 115, 116], [100, 114, 111, 112, 115], [97, 108, 116, 101, 114, 115], [108, 105, 101, 115]].getD x.behavior.toNat (dfl Tag.str))⟩ : ByteArray).size ≤ 6 := z3
    have hnl : names.length = 4 := rfl
    have hin : 0 ≤ x.behavior ∧ x.behavior ≤ 3 := by simp only [inr] at hb0; split at hb0 <;> simp_all
    have hbh : beh x.behavior = str8 (names.getD x.behavior.toNat []) := by unfold beh; rw [if_pos hb0]
    refine W.draw X [] [(7, ⟨true, [.a (.sl .str names)]⟩)] [1, 3] [] 6 MO (by kernel_rfl) rfl (by (repeat' (first | with_reducible exact AllP.nil | with_reducible refine AllP.mk ?_ ?_ | with_reducible apply And.intro)) <;> skip; (iterate 1 (all_goals try (first | exact (c_impl_behaviorNames ) | exact fun _ => (c_impl_behaviorNames ) | exact fun _ _ => (c_impl_behaviorNames )))); all_goals (first | (intros; omega) | exact rfl | exact El_all _ (by decide) | exact ⟨rfl, El_all _ (by decide)⟩ | ((intro h1; first | (intro h2; first | (intro h3; refine And.intro ?_ ?_) | refine And.intro ?_ ?_) | refine And.intro ?_ ?_) <;> first | omega | ((try simp only [nb, inr_t, inr_f] at *); (try simp (disch := omega) only [i64w]); omega)) | ((try simp only [nb, inr_t, inr_f] at *); (simp (disch := omega) only [i64w]); omega) | (refine fun _ => ?_; dsimp only [hyps, imps]; omega) | (refine fun _ _ => ?_; dsimp only [hyps, imps]; omega) | exact (u8w _).1 | exact (u8w _).2 | exact (u8n _).1 | exact (u8n _).2 | (simp only [byt, maxLen, lens]; omega) | (intros; simp only [nb] at *; omega))) ?_
    refine W.seq ?_
    refine W.draw X [] [(14, ⟨false, [.a (.lit (.string (str8 (Lib.itoa x.id))))]⟩), (18, ⟨false, [.a (.lit (.string (str8 (Lib.itoa x.round))))]⟩)] [2] [] 12 MO (by kernel_rfl) rfl (by (repeat' (first | with_reducible exact AllP.nil | with_reducible refine AllP.mk ?_ ?_ | with_reducible apply And.intro)) <;> skip; (iterate 3 (all_goals try (first | exact (c_impl_FormatInt x.id (by first | assumption | omega | (simp; done) | (simp; omega))) | exact fun _ => (c_impl_FormatInt x.id (by first | assumption | omega | (simp; done) | (simp; omega))) | exact fun _ _ => (c_impl_FormatInt x.id (by first | assumption | omega | (simp; done) | (simp; omega))) | exact (c_impl_FormatInt x.round (by first | assumption | omega | (simp; done) | (simp; omega))) | exact fun _ => (c_impl_FormatInt x.round (by first | assumption | omega | (simp; done) | (simp; omega))) | exact fun _ _ => (c_impl_FormatInt x.round (by first | assumption | omega | (simp; done) | (simp; omega))) | exact (by simp only [ByteArray.size_append, c1_sz, max64]; omega) | exact fun _ => (by simp only [ByteArray.size_append, c1_sz, max64]; omega) | exact fun _ _ => (by simp only [ByteArray.size_append, c1_sz, max64]; omega)))); all_goals (first | (intros; omega) | exact rfl | exact El_all _ (by decide) | exact ⟨rfl, El_all _ (by decide)⟩ | ((intro h1; first | (intro h2; first | (intro h3; refine And.intro ?_ ?_) | refine And.intro ?_ ?_) | refine And.intro ?_ ?_) <;> first | omega | ((try simp only [nb, inr_t, inr_f] at *); (try simp (disch := omega) only [i64w]); omega)) | ((try simp only [nb, inr_t, inr_f] at *); (simp (disch := omega) only [i64w]); omega) | (refine fun _ => ?_; dsimp only [hyps, imps]; omega) | (refine fun _ _ => ?_; dsimp only [hyps, imps]; omega) | exact (u8w _).1 | exact (u8w _).2 | exact (u8n _).1 | exact (u8n _).2 | (simp only [byt, maxLen, lens]; omega) | (intros; simp only [nb] at *; omega))) ?_
    refine W.ret ?_
    exact Fin.ret rfl ⟨by unfold fSrv; rw [hbh]; rfl, ⟨⟩⟩
  · have hbh : beh x.behavior = str8 [63] := by unfold beh; rw [if_neg (by rw [hb0]; decide)]
    refine W.skip ?_
    refine W.seq ?_
    refine W.draw X [] [(14, ⟨false, [.a (.lit (.string (str8 (Lib.itoa x.id))))]⟩), (18, ⟨false, [.a (.lit (.string (str8 (Lib.itoa x.round))))]⟩)] [2] [] 12 MO (by kernel_rfl) rfl (by (repeat' (first | with_reducible exact AllP.nil | with_reducible refine AllP.mk ?_ ?_ | with_reducible apply And.intro)) <;> skip; (iterate 3 (all_goals try (first | exact (c_impl_FormatInt x.id (by first | assumption | omega | (simp; done) | (simp; omega))) | exact fun _ => (c_impl_FormatInt x.id (by first | assumption | omega | (simp; done) | (simp; omega))) | exact fun _ _ => (c_impl_FormatInt x.id (by first | assumption | omega | (simp; done) | (simp; omega))) | exact (c_impl_FormatInt x.round (by first | assumption | omega | (simp; done) | (simp; omega))) | exact fun _ => (c_impl_FormatInt x.round (by first | assumption | omega | (simp; done) | (simp; omega))) | exact fun _ _ => (c_impl_FormatInt x.round (by first | assumption | omega | (simp; done) | (simp; omega))) | exact (by simp only [ByteArray.size_append, c1_sz, max64]; omega) | exact fun _ => (by simp only [ByteArray.size_append, c1_sz, max64]; omega) | exact fun _ _ => (by simp only [ByteArray.size_append, c1_sz, max64]; omega)))); all_goals (first | (intros; omega) | exact rfl | exact El_all _ (by decide) | exact ⟨rfl, El_all _ (by decide)⟩ | ((intro h1; first | (intro h2; first | (intro h3; refine And.intro ?_ ?_) | refine And.intro ?_ ?_) | refine And.intro ?_ ?_) <;> first | omega | ((try simp only [nb, inr_t, inr_f] at *); (try simp (disch := omega) only [i64w]); omega)) | ((try simp only [nb, inr_t, inr_f] at *); (simp (disch := omega) only [i64w]); omega) | (refine fun _ => ?_; dsimp only [hyps, imps]; omega) | (refine fun _ _ => ?_; dsimp only [hyps, imps]; omega) | exact (u8w _).1 | exact (u8w _).2 | exact (u8n _).1 | exact (u8n _).2 | (simp only [byt, maxLen, lens]; omega) | (intros; simp only [nb] at *; omega))) ?_
    refine W.ret ?_
    exact Fin.ret rfl ⟨by unfold fSrv; rw [hbh]; rfl, ⟨⟩⟩
theorem c_spec_FormatServer (x : Srv) (hw : wf_Srv x) : Sound ty Tryd.prog 19 [.agg (dec_Srv x)] [.a (.lit (.string (fSrv x)))] := by
  refine Sound.of X Tryd.call19 Tryd.func19 rfl rfl (by decide) Tryd.ntmps19 (by simp) ?_
  intro zb
  obtain ⟨h1, _, h3, _, h5⟩ := hw
  have z1 := itoa_sz h1
  have z2 := itoa_sz h3
  have z3 := name_sz x.behavior.toNat
  unfold I64 at h1 h3 h5
  refine W.seq ?_
  refine W.reg X [] [] [1] [] rfl ⟨⟩ ?_
  refine W.seq ?_
  refine W.reg X [] [] [1, 3] [] rfl ⟨⟩ ?_
  refine W.seq ?_
  refine W.seq ?_
  refine W.reg X [] [(6, ⟨false, [.a (.lit (.bool (inr x.behavior 0 3)))]⟩)] [1, 3, 6] [] rfl (by (repeat' (first | with_reducible exact AllP.nil | with_reducible refine AllP.mk ?_ ?_ | with_reducible apply And.intro)) <;> skip; (iterate 1 (all_goals try (first | exact (c_spec_l1In x.behavior 0 3) | exact fun _ => (c_spec_l1In x.behavior 0 3) | exact fun _ _ => (c_spec_l1In x.behavior 0 3)))); all_goals (first | (intros; omega) | exact rfl | exact El_all _ (by decide) | exact ⟨rfl, El_all _ (by decide)⟩ | ((intro h1; first | (intro h2; first | (intro h3; refine And.intro ?_ ?_) | refine And.intro ?_ ?_) | refine And.intro ?_ ?_) <;> first | omega | ((try simp only [nb, inr_t, inr_f] at *); (try simp (disch := omega) only [i64w]); omega)) | ((try simp only [nb, inr_t, inr_f] at *); (simp (disch := omega) only [i64w]); omega) | (refine fun _ => ?_; dsimp only [hyps, imps]; omega) | (refine fun _ _ => ?_; dsimp only [hyps, imps]; omega) | exact (u8w _).1 | exact (u8w _).2 | exact (u8n _).1 | exact (u8n _).2 | (simp only [byt, maxLen, lens]; omega) | (intros; simp only [nb] at *; omega))) ?_
  refine W.cond rfl (fun hb0 => ?_) (fun hb0 => ?_)
  · have z4 : (⟨List.toArray (names.getD x.behavior.toNat (dfl Tag.str))⟩ : ByteArray).size ≤ 6 := z3
    have z5 : (⟨List.toArray ([[104, 111, 110, 101, 115, 116], [100, 114, 111, 112, 115], [97, 108, 116, 101, 114, 115], [108, 105, 101, 115]].getD x.behavior.toNat (dfl Tag.str))⟩ : ByteArray).size ≤ 6 := z3
    have hnl : names.length = 4 := rfl
    have hin : 0 ≤ x.behavior ∧ x.behavior ≤ 3 := by simp only [inr] at hb0; split at hb0 <;> simp_all
    have hbh : beh x.behavior = str8 (names.getD x.behavior.toNat []) := by unfold beh; rw [if_pos hb0]
    refine W.reg X [] [] [1, 3] [] rfl ⟨by show x.behavior.toNat < 4; omega, ⟨hin.1, by show x.behavior < ((4 : Nat) : Int); omega⟩, ⟨rfl, El_all _ (by decide)⟩, by decide, by decide, by decide, by decide, ⟨⟩⟩ ?_
    refine W.seq ?_
    refine W.draw X [] [(14, ⟨false, [.a (.lit (.string (str8 (Lib.itoa x.id))))]⟩), (18, ⟨false, [.a (.lit (.string (str8 (Lib.itoa x.round))))]⟩)] [2] [] 12 MO (by kernel_rfl) rfl (by (repeat' (first | with_reducible exact AllP.nil | with_reducible refine AllP.mk ?_ ?_ | with_reducible apply And.intro)) <;> skip; (iterate 3 (all_goals try (first | exact (c_spec_FormatInt x.id (by first | assumption | omega | (simp; done) | (simp; omega))) | exact fun _ => (c_spec_FormatInt x.id (by first | assumption | omega | (simp; done) | (simp; omega))) | exact fun _ _ => (c_spec_FormatInt x.id (by first | assumption | omega | (simp; done) | (simp; omega))) | exact (c_spec_FormatInt x.round (by first | assumption | omega | (simp; done) | (simp; omega))) | exact fun _ => (c_spec_FormatInt x.round (by first | assumption | omega | (simp; done) | (simp; omega))) | exact fun _ _ => (c_spec_FormatInt x.round (by first | assumption | omega | (simp; done) | (simp; omega))) | exact (by simp only [ByteArray.size_append, c1_sz, max64]; omega) | exact fun _ => (by simp only [ByteArray.size_append, c1_sz, max64]; omega) | exact fun _ _ => (by simp only [ByteArray.size_append, c1_sz, max64]; omega)))); all_goals (first | (intros; omega) | exact rfl | exact El_all _ (by decide) | exact ⟨rfl, El_all _ (by decide)⟩ | ((intro h1; first | (intro h2; first | (intro h3; refine And.intro ?_ ?_) | refine And.intro ?_ ?_) | refine And.intro ?_ ?_) <;> first | omega | ((try simp only [nb, inr_t, inr_f] at *); (try simp (disch := omega) only [i64w]); omega)) | ((try simp only [nb, inr_t, inr_f] at *); (simp (disch := omega) only [i64w]); omega) | (refine fun _ => ?_; dsimp only [hyps, imps]; omega) | (refine fun _ _ => ?_; dsimp only [hyps, imps]; omega) | exact (u8w _).1 | exact (u8w _).2 | exact (u8n _).1 | exact (u8n _).2 | (simp only [byt, maxLen, lens]; omega) | (intros; simp only [nb] at *; omega))) ?_
    refine W.ret ?_
    exact Fin.ret rfl ⟨by unfold fSrv; rw [hbh]; rfl, ⟨⟩⟩
  · have hbh : beh x.behavior = str8 [63] := by unfold beh; rw [if_neg (by rw [hb0]; decide)]
    refine W.skip ?_
    refine W.seq ?_
    refine W.draw X [] [(14, ⟨false, [.a (.lit (.string (str8 (Lib.itoa x.id))))]⟩), (18, ⟨false, [.a (.lit (.string (str8 (Lib.itoa x.round))))]⟩)] [2] [] 12 MO (by kernel_rfl) rfl (by (repeat' (first | with_reducible exact AllP.nil | with_reducible refine AllP.mk ?_ ?_ | with_reducible apply And.intro)) <;> skip; (iterate 3 (all_goals try (first | exact (c_spec_FormatInt x.id (by first | assumption | omega | (simp; done) | (simp; omega))) | exact fun _ => (c_spec_FormatInt x.id (by first | assumption | omega | (simp; done) | (simp; omega))) | exact fun _ _ => (c_spec_FormatInt x.id (by first | assumption | omega | (simp; done) | (simp; omega))) | exact (c_spec_FormatInt x.round (by first | assumption | omega | (simp; done) | (simp; omega))) | exact fun _ => (c_spec_FormatInt x.round (by first | assumption | omega | (simp; done) | (simp; omega))) | exact fun _ _ => (c_spec_FormatInt x.round (by first | assumption | omega | (simp; done) | (simp; omega))) | exact (by simp only [ByteArray.size_append, c1_sz, max64]; omega) | exact fun _ => (by simp only [ByteArray.size_append, c1_sz, max64]; omega) | exact fun _ _ => (by simp only [ByteArray.size_append, c1_sz, max64]; omega)))); all_goals (first | (intros; omega) | exact rfl | exact El_all _ (by decide) | exact ⟨rfl, El_all _ (by decide)⟩ | ((intro h1; first | (intro h2; first | (intro h3; refine And.intro ?_ ?_) | refine And.intro ?_ ?_) | refine And.intro ?_ ?_) <;> first | omega | ((try simp only [nb, inr_t, inr_f] at *); (try simp (disch := omega) only [i64w]); omega)) | ((try simp only [nb, inr_t, inr_f] at *); (simp (disch := omega) only [i64w]); omega) | (refine fun _ => ?_; dsimp only [hyps, imps]; omega) | (refine fun _ _ => ?_; dsimp only [hyps, imps]; omega) | exact (u8w _).1 | exact (u8w _).2 | exact (u8n _).1 | exact (u8n _).2 | (simp only [byt, maxLen, lens]; omega) | (intros; simp only [nb] at *; omega))) ?_
    refine W.ret ?_
    exact Fin.ret rfl ⟨by unfold fSrv; rw [hbh]; rfl, ⟨⟩⟩
end Go.Proofs.YtjknhnhcbadigaaDoor.G
namespace Go.Proofs.YtjknhnhcbadigaaDoor.G
set_option linter.all false
open Go.RowKit L D
set_option maxRecDepth 100000
theorem c_FnExactFormatServer (x0 : Srv) (h_x0 : (wf_Srv) x0) : Sound ty Tryd.prog 5 [.agg (dec_Srv x0)] [.a (.lit (.bool true))] := by
  refine Sound.of X Tryd.call5 Tryd.func5 rfl rfl (by decide) Tryd.ntmps5 (by simp) ?_
  intro zb
  refine W.seq ?_
  refine W.reg X [] [] [1] [] rfl ⟨⟩ ?_
  refine W.seq ?_
  refine W.reg X [] [] [1, 3] [] rfl ⟨⟩ ?_
  refine W.seq ?_
  refine W.reg X [] [(9, ⟨false, [.a (.lit (.int .i64 (szr (1048576) (size_Srv x0))))]⟩)] [1, 3] [] rfl ⟨c_szServer x0 (1048576) (by omega) (by omega), ⟨⟩⟩ ?_
  refine W.seq ?_
  refine W.seq ?_
  refine W.reg X [] [] [1, 11] [] rfl ⟨⟩ ?_
  refine W.cond rfl (fun hb0 => ?_) (fun hb0 => ?_)
  · try simp only [nb] at hb0
    refine W.seq ?_
    refine W.reg X [] [] [2] [] rfl ⟨⟩ ?_
    refine W.ret ?_
    exact Fin.ret rfl ⟨rfl, ⟨⟩⟩
  · try simp only [nb] at hb0
    obtain ⟨e0, e0'⟩ := szr_pos hb0
    rw [e0]
    refine W.skip ?_
    refine W.seq ?_
    refine W.reg X [(13, 225)] [(13, ⟨true, [.agg (dec_Srv x0)]⟩), (14, ⟨false, [.a (.lit (.string (fSrv x0)))]⟩)] [1, 4] [] rfl ⟨c_spec_FormatServer x0 h_x0, c_toServer x0 (by omega), ⟨⟩⟩ ?_
    refine W.seq ?_
    refine W.reg X [(16, 275)] [(16, ⟨true, [.agg (dec_Srv x0)]⟩)] [1, 4, 5] [] rfl ⟨c_toServer x0 (by omega), ⟨⟩⟩ ?_
    refine W.seq ?_
    refine W.reg X [] [(18, ⟨false, [.a (.lit (.string (fSrv x0)))]⟩)] [1, 4, 5, 6] [] rfl ⟨c_impl_FormatServer x0 h_x0, ⟨⟩⟩ ?_
    refine W.seq ?_
    refine W.seq ?_
    refine W.reg X [] [] [1, 5, 21] [] rfl ⟨⟩ ?_
    refine W.cond rfl (fun hb1 => ?_) (fun hb1 => ?_)
    · exact absurd hb1 (by first | (simp; done) | (simp; omega))
    · clear hb1
      refine W.skip ?_
      refine W.seq ?_
      refine W.seq ?_
      refine W.draw X [(24, 325)] [(24, ⟨true, [.agg (dec_Srv x0)]⟩), (25, ⟨false, [.a (.lit (.bool true))]⟩)] [26] [] 5 MO (by kernel_rfl) rfl ⟨c_eqServer x0, c_toServer x0 (by omega), ⟨⟩⟩ ?_
      refine W.cond rfl (fun hb2 => ?_) (fun hb2 => ?_)
      · exact absurd hb2 (by first | (simp; done) | (simp; omega))
      · clear hb2
        refine W.skip ?_
        refine W.seq ?_
        refine W.reg X [] [] [2] [] rfl ⟨⟩ ?_
        refine W.ret ?_
        exact Fin.ret rfl ⟨rfl, ⟨⟩⟩
end Go.Proofs.YtjknhnhcbadigaaDoor.G
