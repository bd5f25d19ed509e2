/-
  FnExactFormatArchive, walked by the symbolic machine: it returns true.
-/
import Derived.Test.YtjknhnhcbadigaaDoorZFormatArchiveM9
import Derived.Test.YtjknhnhcbadigaaDoorZFormatArchiveM10
import Derived.Sort.Grow
namespace Go.Proofs.YtjknhnhcbadigaaDoor.G
set_option linter.all false
open Go.RowKit L D
theorem amb_tab {w : World} (h : Amb w) : Lib.TabIs Tryd.prog w "internal/strconv.uint64pow10" .u64 Lib.pow10Tab := by
  obtain ⟨e, k, h⟩ := h
  unfold Lib.TabIs World.var?
  rw [show Tryd.prog.globalNamed "internal/strconv.uint64pow10" = some 0 by kernel_rfl]
  simp only [Option.bind_some, h]
theorem grown_below (w : World) (k : Nat) (os : Array Go.Obj) : Below w.heap.size w (Sort.grow (w.drewN k) os) := by
  refine ⟨rfl, rfl, rfl, ?_, fun j hj => ?_⟩
  · show w.heap.size ≤ (w.heap ++ os).size
    rw [Array.size_append]; omega
  · show (w.heap ++ os)[j]? = w.heap[j]?
    rw [Array.getElem?_append_left hj]
theorem c_strconv_Itoa (n : Int) (h : -9223372036854775808 ≤ n ∧ n ≤ 9223372036854775807) : Sound ty Tryd.prog 67 [.a (.lit (.int .i64 n))] [.a (.lit (.string (str8 (Lib.itoa n))))] := by
  refine ⟨Tryd.call67, ?_⟩
  intro w us hA ha
  match us, ha with
  | [u], ⟨h1, _⟩ =>
    obtain ⟨_, rfl, _, _⟩ := h1
    refine (Tryd.strconv_Itoa n h.1 h.2 w (amb_tab hA)).mono ?_
    rintro e w' ⟨rfl, k, os, rfl⟩
    exact ⟨_, [], rfl, grown_below w k os, Own.nil _ _, ⟨[], [], ⟨rfl, rfl, rfl⟩, rfl, rfl⟩⟩
/-- The digits of a number that is not 0. -/
def dd (x : Int) : List UInt8 := if x = 0 then [] else Lib.decDigits x.natAbs
theorem dd_step {x : Int} (hx : x ≠ 0) : dd x = dd (x.tdiv 10) ++ [UInt8.ofNat (48 + x.natAbs % 10)] := by
  have e : (x.tdiv 10).natAbs = x.natAbs / 10 := by rw [Int.natAbs_tdiv]; rfl
  have h0 : x.tdiv 10 = 0 ↔ x.natAbs < 10 := by
    rw [← Int.natAbs_eq_zero, e]; omega
  unfold dd
  rw [if_neg hx]
  by_cases hs : x.natAbs < 10
  · rw [if_pos (h0.2 hs), Lib.decDigits, dif_pos hs, List.nil_append, Nat.mod_eq_of_lt hs]
  · rw [if_neg (fun h => hs (h0.1 h)), e, Lib.decDigits, dif_neg hs]
theorem dd_len : ∀ (n : Nat) (x : Int), x.natAbs ≤ n → x.natAbs < 10 ^ 20 → (dd x).length ≤ 20 := by
  intro n x _ hx
  have key : ∀ (k u : Nat), u < 10 ^ (k + 1) → (Lib.decDigits u).length ≤ k + 1 := by
    intro k
    induction k with
    | zero => intro u hu; rw [Lib.decDigits, dif_pos (by omega)]; simp
    | succ k ih =>
      intro u hu
      rw [Lib.decDigits]
      split
      · simp
      · rw [List.length_append]
        have := ih (u / 10) (by rw [Nat.pow_succ] at hu; omega)
        simp only [List.length_cons, List.length_nil]; omega
  unfold dd
  split
  · simp
  · exact key 19 _ hx
theorem itoa_dd {n : Int} (h : n ≠ 0) : Lib.itoa n = (if n < 0 then [45] else []) ++ dd n := by
  unfold Lib.itoa dd
  rw [if_neg h]
  split
  · rfl
  · rw [List.nil_append]; congr 1; omega
theorem itoa_zero : Lib.itoa 0 = [48] := by
  unfold Lib.itoa; rw [if_neg (by decide), Lib.decDigits, dif_pos (by decide)]; rfl
theorem itoa_len {n : Int} (h : -9223372036854775808 ≤ n ∧ n ≤ 9223372036854775807) : (Lib.itoa n).length ≤ 21 := by
  by_cases h0 : n = 0
  · subst h0; rw [itoa_zero]; decide
  · rw [itoa_dd h0, List.length_append]
    have := dd_len n.natAbs n (Nat.le_refl _) (by omega)
    split <;> simp <;> omega
/-- A digit's byte, as the reference makes it. -/
theorem digit_pos {x : Int} (h : -9223372036854775808 ≤ x ∧ x ≤ 9223372036854775807) (hd : ¬ x.tmod 10 < 0) : UInt8.ofNat (IntKind.u8.wrap (IntKind.i64.wrap (48 + x.tmod 10))).toNat = UInt8.ofNat (48 + x.natAbs % 10) := by
  have h1 : (x.tmod 10).natAbs = x.natAbs % 10 := by rw [Int.natAbs_tmod]; rfl
  have hb : x.tmod 10 = ((x.natAbs % 10 : Nat) : Int) := by omega
  have hlt : x.natAbs % 10 < 10 := Nat.mod_lt _ (by decide)
  rw [hb, i64w (by omega)]
  rw [u8w_eq]
  congr 1; omega
theorem digit_neg {x : Int} (h : -9223372036854775808 ≤ x ∧ x ≤ 9223372036854775807) (hd : x.tmod 10 < 0) : UInt8.ofNat (IntKind.u8.wrap (IntKind.i64.wrap (48 + IntKind.i64.wrap (0 - x.tmod 10)))).toNat = UInt8.ofNat (48 + x.natAbs % 10) := by
  have h1 : (x.tmod 10).natAbs = x.natAbs % 10 := by rw [Int.natAbs_tmod]; rfl
  have hb : 0 - x.tmod 10 = ((x.natAbs % 10 : Nat) : Int) := by omega
  have hlt : x.natAbs % 10 < 10 := Nat.mod_lt _ (by decide)
  rw [hb, i64w (a := ((x.natAbs % 10 : Nat) : Int)) (by omega), i64w (by omega)]
  rw [u8w_eq]
  congr 1; omega
theorem cat_ok (a b : List UInt8) (h : a.length + b.length ≤ 1099511627776) : (((str8 a).size + (str8 b).size : Nat) : Int) ≤ IntKind.i64.max := by
  rw [str8_size, str8_size, max64]; omega
theorem c1_sz (c : UInt8) : (⟨#[c]⟩ : ByteArray).size = 1 := rfl
theorem itoa_sz {n : Int} (h : -9223372036854775808 ≤ n ∧ n ≤ 9223372036854775807) : (str8 (Lib.itoa n)).size ≤ 21 := itoa_len h
/-- honest, drops, alters, lies. -/
def names : List (List UInt8) := [[104, 111, 110, 101, 115, 116], [100, 114, 111, 112, 115], [97, 108, 116, 101, 114, 115], [108, 105, 101, 115]]
end Go.Proofs.YtjknhnhcbadigaaDoor.G
namespace Go.Proofs.YtjknhnhcbadigaaDoor.G
set_option linter.all false
open Go.RowKit L D
set_option maxRecDepth 100000
theorem c_impl_FormatInt (n : Int) (h : -9223372036854775808 ≤ n ∧ n ≤ 9223372036854775807) : Sound ty Tryd.prog 36 [.a (.lit (.int .i64 n))] [.a (.lit (.string (str8 (Lib.itoa n))))] := by
  refine Sound.of X Tryd.call36 Tryd.func36 rfl rfl (by decide) Tryd.ntmps36 (by simp) ?_
  intro zb
  refine W.seq ?_
  refine W.reg X [] [] [0] [] rfl ⟨⟩ ?_
  refine W.seq ?_
  refine W.reg X [] [(4, ⟨false, [.a (.lit (.string (str8 (Lib.itoa n))))]⟩)] [2] [] rfl (by (repeat' (first | with_reducible exact AllP.nil | with_reducible refine AllP.mk ?_ ?_ | with_reducible apply And.intro)) <;> skip; (iterate 1 (all_goals try (first | exact (c_strconv_Itoa n h) | exact fun _ => (c_strconv_Itoa n h) | exact fun _ _ => (c_strconv_Itoa n h)))); all_goals (first | (intros; omega) | exact rfl | exact El_all _ (by decide) | exact ⟨rfl, El_all _ (by decide)⟩ | ((intro h1; first | (intro h2; first | (intro h3; refine And.intro ?_ ?_) | refine And.intro ?_ ?_) | refine And.intro ?_ ?_) <;> first | omega | ((try simp only [nb, inr_t, inr_f] at *); (try simp (disch := omega) only [i64w]); omega)) | ((try simp only [nb, inr_t, inr_f] at *); (simp (disch := omega) only [i64w]); omega) | (refine fun _ => ?_; dsimp only [hyps, imps]; omega) | (refine fun _ _ => ?_; dsimp only [hyps, imps]; omega) | exact (u8w _).1 | exact (u8w _).2 | exact (u8n _).1 | exact (u8n _).2 | (simp only [byt, maxLen, lens]; omega) | (intros; simp only [nb] at *; omega))) ?_
  refine W.ret ?_
  exact Fin.ret rfl ⟨rfl, ⟨⟩⟩
theorem c_spec_FormatInt (n : Int) (h : -9223372036854775808 ≤ n ∧ n ≤ 9223372036854775807) : Sound ty Tryd.prog 34 [.a (.lit (.int .i64 n))] [.a (.lit (.string (str8 (Lib.itoa n))))] := by
  refine Sound.of X Tryd.call34 Tryd.func34 rfl rfl (by decide) Tryd.ntmps34 (by simp) ?_
  intro zb
  refine W.seq ?_
  refine W.reg X [] [] [0] [] rfl ⟨⟩ ?_
  refine W.seq ?_
  refine W.seq ?_
  refine W.reg X [] [] [0, 7] [] rfl ⟨⟩ ?_
  refine W.cond rfl (fun hb0 => ?_) (fun hb0 => ?_)
  · try simp only [nb, inr_t, inr_f, isEmpty_t] at hb0
    refine W.seq ?_
    refine W.reg X [] [] [2] [] rfl ⟨⟩ ?_
    refine W.ret ?_
    exact Fin.ret rfl ⟨by rw [show n = 0 by omega, itoa_zero]; rfl, ⟨⟩⟩
  · try simp only [nb, inr_t, inr_f, isEmpty_t] at hb0
    refine W.skip ?_
    refine W.seq ?_
    refine W.reg X [] [] [0, 3] [] rfl ⟨⟩ ?_
    refine W.seq ?_
    refine W.seq ?_
    refine W.reg X [] [] [0, 3, 4] [] rfl ⟨⟩ ?_
    refine W.block ?_
    refine W.loopO (fun k => dd k.1 ++ k.2 = dd n ∧ k.1.natAbs ≤ n.natAbs ∧ -9223372036854775808 ≤ k.1 ∧ k.1 ≤ 9223372036854775807) (fun k : (Int × List UInt8) => [(3, .one (.a (.lit (.string (str8 k.2))))), (4, .one (.a (.lit (.int .i64 k.1))))]) (fun k => []) (fun k => k.1.natAbs) (n, []) (fun k => rfl) ⟨by simp, Nat.le_refl _, h.1, h.2⟩ rfl ?_
    rintro k ⟨hdd, hle, hl1, hl2⟩
    refine W.seq ?_
    refine W.seq ?_
    refine W.reg X [] [] [0, 3, 4, 10] [] rfl ⟨⟩ ?_
    refine W.cond rfl (fun hb1 => ?_) (fun hb1 => ?_)
    · try simp only [nb, inr_t, inr_f, isEmpty_t] at hb1
      have hdl := dd_len n.natAbs n (Nat.le_refl _) (by omega)
      have hkl : k.2.length ≤ 20 := by have := congrArg List.length hdd; rw [List.length_append] at this; omega
      refine W.skip ?_
      refine W.seq ?_
      refine W.block ?_
      refine W.seq ?_
      refine W.reg X [] [] [0, 3, 4, 5] [] rfl (by (repeat' (first | exact True.intro | apply And.intro)) <;> first | (intros; omega) | exact rfl | exact El_all _ (by decide) | exact ⟨rfl, El_all _ (by decide)⟩ | ((intro h1; first | (intro h2; first | (intro h3; refine And.intro ?_ ?_) | refine And.intro ?_ ?_) | refine And.intro ?_ ?_) <;> first | omega | ((try simp only [nb, inr_t, inr_f] at *); (try simp (disch := omega) only [i64w]); omega)) | ((try simp only [nb, inr_t, inr_f] at *); (simp (disch := omega) only [i64w]); omega) | (refine fun _ => ?_; dsimp only [hyps, imps]; omega) | (refine fun _ _ => ?_; dsimp only [hyps, imps]; omega) | exact (u8w _).1 | exact (u8w _).2 | exact (u8n _).1 | exact (u8n _).2 | (simp only [byt, maxLen, lens]; omega) | (intros; simp only [nb] at *; omega)) ?_
      refine W.seq ?_
      refine W.seq ?_
      refine W.reg X [] [] [0, 3, 4, 5, 16] [] rfl ⟨⟩ ?_
      refine W.cond rfl (fun hb2 => ?_) (fun hb2 => ?_)
      · try simp only [nb, inr_t, inr_f, isEmpty_t] at hb2
        refine W.reg X [] [] [0, 3, 4, 5] [] rfl ⟨⟩ ?_
        refine W.reg X [] [] [0, 3, 4] [] rfl (by (repeat' (first | with_reducible exact AllP.nil | with_reducible refine AllP.mk ?_ ?_ | with_reducible apply And.intro)) <;> skip; (iterate 1 (all_goals try (first | exact cat_ok _ _ (by simp only [List.length_cons, List.length_nil, List.length_append]; omega) | exact fun _ => cat_ok _ _ (by simp only [List.length_cons, List.length_nil, List.length_append]; omega) | exact fun _ _ => cat_ok _ _ (by simp only [List.length_cons, List.length_nil, List.length_append]; omega)))); all_goals (first | (intros; omega) | exact rfl | exact El_all _ (by decide) | exact ⟨rfl, El_all _ (by decide)⟩ | ((intro h1; first | (intro h2; first | (intro h3; refine And.intro ?_ ?_) | refine And.intro ?_ ?_) | refine And.intro ?_ ?_) <;> first | omega | ((try simp only [nb, inr_t, inr_f] at *); (try simp (disch := omega) only [i64w]); omega)) | ((try simp only [nb, inr_t, inr_f] at *); (simp (disch := omega) only [i64w]); omega) | (refine fun _ => ?_; dsimp only [hyps, imps]; omega) | (refine fun _ _ => ?_; dsimp only [hyps, imps]; omega) | exact (u8w _).1 | exact (u8w _).2 | exact (u8n _).1 | exact (u8n _).2 | (simp only [byt, maxLen, lens]; omega) | (intros; simp only [nb] at *; omega))) ?_
        refine W.reg X [] [] [0, 3, 4] [] rfl (by (repeat' (first | exact True.intro | apply And.intro)) <;> first | (intros; omega) | exact rfl | exact El_all _ (by decide) | exact ⟨rfl, El_all _ (by decide)⟩ | ((intro h1; first | (intro h2; first | (intro h3; refine And.intro ?_ ?_) | refine And.intro ?_ ?_) | refine And.intro ?_ ?_) <;> first | omega | ((try simp only [nb, inr_t, inr_f] at *); (try simp (disch := omega) only [i64w]); omega)) | ((try simp only [nb, inr_t, inr_f] at *); (simp (disch := omega) only [i64w]); omega) | (refine fun _ => ?_; dsimp only [hyps, imps]; omega) | (refine fun _ _ => ?_; dsimp only [hyps, imps]; omega) | exact (u8w _).1 | exact (u8w _).2 | exact (u8n _).1 | exact (u8n _).2 | (simp only [byt, maxLen, lens]; omega) | (intros; simp only [nb] at *; omega)) ?_
        have hdg := digit_neg ⟨hl1, hl2⟩ (by omega)
        have hst := dd_step hb1
        have hqa : (k.1.tdiv 10).natAbs = k.1.natAbs / 10 := by rw [Int.natAbs_tdiv]; rfl
        have hk0 : 0 < k.1.natAbs := by omega
        refine ⟨(k.1.tdiv 10, [UInt8.ofNat (48 + k.1.natAbs % 10)] ++ k.2), ⟨by rw [← List.append_assoc, ← hst]; exact hdd, by omega, by omega, by omega⟩, by show (k.1.tdiv 10).natAbs < k.1.natAbs; omega, ?_⟩
        rw [str8_app, hdg, i64w (a := k.1.tdiv 10) (by omega)]
      · try simp only [nb, inr_t, inr_f, isEmpty_t] at hb2
        refine W.skip ?_
        refine W.reg X [] [] [0, 3, 4] [] rfl (by (repeat' (first | with_reducible exact AllP.nil | with_reducible refine AllP.mk ?_ ?_ | with_reducible apply And.intro)) <;> skip; (iterate 1 (all_goals try (first | exact cat_ok _ _ (by simp only [List.length_cons, List.length_nil, List.length_append]; omega) | exact fun _ => cat_ok _ _ (by simp only [List.length_cons, List.length_nil, List.length_append]; omega) | exact fun _ _ => cat_ok _ _ (by simp only [List.length_cons, List.length_nil, List.length_append]; omega)))); all_goals (first | (intros; omega) | exact rfl | exact El_all _ (by decide) | exact ⟨rfl, El_all _ (by decide)⟩ | ((intro h1; first | (intro h2; first | (intro h3; refine And.intro ?_ ?_) | refine And.intro ?_ ?_) | refine And.intro ?_ ?_) <;> first | omega | ((try simp only [nb, inr_t, inr_f] at *); (try simp (disch := omega) only [i64w]); omega)) | ((try simp only [nb, inr_t, inr_f] at *); (simp (disch := omega) only [i64w]); omega) | (refine fun _ => ?_; dsimp only [hyps, imps]; omega) | (refine fun _ _ => ?_; dsimp only [hyps, imps]; omega) | exact (u8w _).1 | exact (u8w _).2 | exact (u8n _).1 | exact (u8n _).2 | (simp only [byt, maxLen, lens]; omega) | (intros; simp only [nb] at *; omega))) ?_
        refine W.reg X [] [] [0, 3, 4] [] rfl (by (repeat' (first | exact True.intro | apply And.intro)) <;> first | (intros; omega) | exact rfl | exact El_all _ (by decide) | exact ⟨rfl, El_all _ (by decide)⟩ | ((intro h1; first | (intro h2; first | (intro h3; refine And.intro ?_ ?_) | refine And.intro ?_ ?_) | refine And.intro ?_ ?_) <;> first | omega | ((try simp only [nb, inr_t, inr_f] at *); (try simp (disch := omega) only [i64w]); omega)) | ((try simp only [nb, inr_t, inr_f] at *); (simp (disch := omega) only [i64w]); omega) | (refine fun _ => ?_; dsimp only [hyps, imps]; omega) | (refine fun _ _ => ?_; dsimp only [hyps, imps]; omega) | exact (u8w _).1 | exact (u8w _).2 | exact (u8n _).1 | exact (u8n _).2 | (simp only [byt, maxLen, lens]; omega) | (intros; simp only [nb] at *; omega)) ?_
        have hdg := digit_pos ⟨hl1, hl2⟩ (by omega)
        have hst := dd_step hb1
        have hqa : (k.1.tdiv 10).natAbs = k.1.natAbs / 10 := by rw [Int.natAbs_tdiv]; rfl
        have hk0 : 0 < k.1.natAbs := by omega
        refine ⟨(k.1.tdiv 10, [UInt8.ofNat (48 + k.1.natAbs % 10)] ++ k.2), ⟨by rw [← List.append_assoc, ← hst]; exact hdd, by omega, by omega, by omega⟩, by show (k.1.tdiv 10).natAbs < k.1.natAbs; omega, ?_⟩
        rw [str8_app, hdg, i64w (a := k.1.tdiv 10) (by omega)]
    · try simp only [nb, inr_t, inr_f, isEmpty_t] at hb1
      have hdl := dd_len n.natAbs n (Nat.le_refl _) (by omega)
      have hkl : k.2.length ≤ 20 := by have := congrArg List.length hdd; rw [List.length_append] at this; omega
      refine W.exit ?_
      refine W.seq ?_
      refine W.seq ?_
      refine W.reg X [] [] [3, 27] [] rfl ⟨⟩ ?_
      refine W.cond rfl (fun hb3 => ?_) (fun hb3 => ?_)
      · try simp only [nb, inr_t, inr_f, isEmpty_t] at hb3
        refine W.seq ?_
        refine W.reg X [] [] [2] [] rfl (by (repeat' (first | with_reducible exact AllP.nil | with_reducible refine AllP.mk ?_ ?_ | with_reducible apply And.intro)) <;> skip; (iterate 1 (all_goals try (first | exact cat_ok _ _ (by simp only [List.length_cons, List.length_nil, List.length_append]; omega) | exact fun _ => cat_ok _ _ (by simp only [List.length_cons, List.length_nil, List.length_append]; omega) | exact fun _ _ => cat_ok _ _ (by simp only [List.length_cons, List.length_nil, List.length_append]; omega)))); all_goals (first | (intros; omega) | exact rfl | exact El_all _ (by decide) | exact ⟨rfl, El_all _ (by decide)⟩ | ((intro h1; first | (intro h2; first | (intro h3; refine And.intro ?_ ?_) | refine And.intro ?_ ?_) | refine And.intro ?_ ?_) <;> first | omega | ((try simp only [nb, inr_t, inr_f] at *); (try simp (disch := omega) only [i64w]); omega)) | ((try simp only [nb, inr_t, inr_f] at *); (simp (disch := omega) only [i64w]); omega) | (refine fun _ => ?_; dsimp only [hyps, imps]; omega) | (refine fun _ _ => ?_; dsimp only [hyps, imps]; omega) | exact (u8w _).1 | exact (u8w _).2 | exact (u8n _).1 | exact (u8n _).2 | (simp only [byt, maxLen, lens]; omega) | (intros; simp only [nb] at *; omega))) ?_
        refine W.ret ?_
        exact Fin.ret rfl ⟨by rw [itoa_dd hb0, if_pos hb3, ← hdd, show k.1 = 0 by omega]; exact congrArg Value.string (str8_app [45] k.2), ⟨⟩⟩
      · try simp only [nb, inr_t, inr_f, isEmpty_t] at hb3
        refine W.skip ?_
        refine W.seq ?_
        refine W.reg X [] [] [2] [] rfl ⟨⟩ ?_
        refine W.ret ?_
        exact Fin.ret rfl ⟨by rw [itoa_dd hb0, if_neg (by omega), ← hdd, show k.1 = 0 by omega]; rfl, ⟨⟩⟩
end Go.Proofs.YtjknhnhcbadigaaDoor.G
namespace Go.Proofs.YtjknhnhcbadigaaDoor.G
set_option linter.all false
open Go.RowKit L D
set_option maxRecDepth 100000
end Go.Proofs.YtjknhnhcbadigaaDoor.G
namespace Go.Proofs.YtjknhnhcbadigaaDoor.G
set_option linter.all false
open Go.RowKit L D
theorem join_snoc (l : List (List UInt8)) (sep y : List UInt8) (h : l ≠ []) : Lib.join (l ++ [y]) sep = Lib.join l sep ++ sep ++ y := by
  cases l with
  | nil => exact absurd rfl h
  | cons x r =>
    rw [List.cons_append, Lib.join_cons, Lib.join_cons]
    simp [Lib.joinTail, List.append_assoc]
theorem join_le (l : List (List UInt8)) (c : UInt8) : (Lib.join l [c]).length ≤ lsz List.length l := by
  cases l with
  | nil => simp [Lib.join_nil]
  | cons x r =>
    rw [Lib.join_cons, List.length_append, Lib.joinTail_length]
    simp only [lsz, List.length_cons, List.map_cons, List.sum_cons, Lib.lens, List.length_nil]
    have : (List.map (fun x => List.length x) r).sum = (List.map List.length r).sum := rfl
    omega
theorem lsz_take (l : List (List UInt8)) (k : Nat) : lsz List.length (l.take k) ≤ lsz List.length l := by
  have h1 := take_sum_le l List.length k
  unfold lsz
  have : (l.take k).length ≤ l.length := List.length_take_le' _ _
  omega
theorem lsz_map {α : Type} (f : α → List UInt8) (C : Nat) : ∀ (l : List α), (∀ y, y ∈ l → (f y).length ≤ C) → lsz List.length (l.map f) ≤ (C + 1) * l.length
  | [], _ => by simp [lsz]
  | x :: r, h => by
    have h1 := lsz_map f C r (fun y hy => h y (List.mem_cons_of_mem _ hy))
    have h2 := h x (List.mem_cons_self ..)
    unfold lsz at h1 ⊢
    simp only [List.map_cons, List.length_cons, List.sum_cons, Nat.mul_add] at h1 ⊢
    omega
theorem at_mem {α : Type} {P : α → Prop} {l : List α} (h : ∀ y, y ∈ l → P y) {k : Nat} (hk : k < l.length) (d : α) : P (l.getD k d) := by
  rw [List.getD_eq_getElem?_getD, List.getElem?_eq_getElem hk]
  exact h _ (List.getElem_mem hk)
theorem map_at {α β : Type} (f : α → β) {l : List α} {k : Nat} (hk : k < l.length) (d : α) (e : β) : (l.map f).getD k e = f (l.getD k d) := by
  rw [List.getD_eq_getElem?_getD, List.getD_eq_getElem?_getD, List.getElem?_map, List.getElem?_eq_getElem hk]; rfl
theorem c_strings_Join (l : List (List UInt8)) (c : UInt8) (h : lsz List.length l ≤ 1099511627776) : Sound ty Tryd.prog 69 [.a (.sl .str l), .a (.lit (.string (str8 [c])))] [.a (.lit (.string (str8 (Lib.join l [c]))))] := by
  refine ⟨Tryd.call69, ?_⟩
  rintro w us _ ha
  match us, ha with
  | [u, v], ⟨h1, h2, _⟩ =>
    obtain ⟨fp, h1⟩ := h1
    obtain ⟨_, rfl, _, _⟩ := h2
    obtain ⟨oa, cap, rfl, hc, hm, h3⟩ := (show Sl 1 EStr w u l fp from h1)
    have hlen : l.length ≤ 1099511627776 := by unfold lsz at h; omega
    rcases h3 with ⟨rfl, _⟩ | ⟨b, off, fps, rfl, hb, rfl, hE⟩
    · refine (Tryd.strings_Join_none oa cap (str8 [c]) w).mono ?_
      rintro e w' ⟨rfl, rfl⟩
      exact ⟨_, [], rfl, Below.refl _ _, Own.nil _ _, ⟨[], [], ⟨rfl, rfl, rfl⟩, rfl, rfl⟩⟩
    · have := Tryd.strings_Join b off cap (l.map str8) (str8 [c]) w (fun j x hx => by
          rw [List.getElem?_map] at hx
          cases hy : l[j]? with
          | none => rw [hy] at hx; cases hx
          | some y =>
            rw [hy] at hx
            simp only [Option.map_some, Option.some.injEq] at hx
            subst hx
            obtain ⟨f, hf⟩ := fps_some hE.1 hy
            obtain ⟨cs, q1, rfl, _⟩ := hE.2 j y f hy hf
            have := q1 0 _ rfl
            rw [Nat.add_zero, Nat.mul_one] at this
            exact this) hb (by rw [List.length_map]; omega) (by rw [List.length_map]; exact hc) (by
          rw [List.map_map]
          rw [map_str8]
          have := join_le l c
          rw [str8_list]
          omega)
      rw [List.length_map, List.map_map] at this
      rw [map_str8] at this
      refine this.mono ?_
      rintro e w' ⟨rfl, hb'⟩
      exact ⟨_, [], rfl, hb', Own.nil _ _, ⟨[], [], ⟨rfl, rfl, rfl⟩, rfl, rfl⟩⟩
def orD (l : List (List UInt8)) (c : UInt8) : ByteArray := if l.length = 0 then str8 [45] else str8 (Lib.join l [c])
def jn (l : List (List UInt8)) (c : UInt8) (k : Nat) : ByteArray := str8 (Lib.join (l.take k) [c])
theorem jn_sz (l : List (List UInt8)) (c : UInt8) (k : Nat) : (jn l c k).size ≤ lsz List.length l := by
  have h1 := join_le (l.take k) c
  have h2 := lsz_take l k
  show (str8 (Lib.join (l.take k) [c])).size ≤ _
  rw [str8_size]; omega
theorem jn_step (l : List (List UInt8)) (c : UInt8) {k : Nat} (h : k < l.length) (h0 : 0 < k) : jn l c (k + 1) = jn l c k ++ str8 [c] ++ str8 (l.getD k []) := by
  unfold jn
  rw [take_snoc l k [] h, join_snoc, str8_app, str8_app]
  intro hn
  have := congrArg List.length hn
  rw [List.length_take, List.length_nil] at this
  omega
theorem jn_first (l : List (List UInt8)) (c : UInt8) {k : Nat} (h : k < l.length) (h0 : ¬ 0 < k) : jn l c (k + 1) = jn l c k ++ str8 (l.getD k []) := by
  obtain rfl : k = 0 := by omega
  unfold jn
  rw [take_snoc l 0 [] h, List.take_zero, List.nil_append, Lib.join_one, Lib.join_nil, str8_app, List.nil_append]
theorem jn_all (l : List (List UInt8)) (c : UInt8) {k : Nat} (h : l.length ≤ k) (h0 : l.length ≠ 0) : jn l c k = orD l c := by
  unfold jn orD
  rw [List.take_of_length_le h, if_neg h0]
def bz (b : List UInt8) : Bool := b.any fun c => (c.toNat : Int) != 0
def cntR : List (List UInt8) → Nat
  | [] => 0
  | b :: l => (if bz b then 1 else 0) + cntR l
theorem cntR_le : ∀ l : List (List UInt8), cntR l ≤ l.length
  | [] => Nat.le_refl _
  | b :: l => by have := cntR_le l; unfold cntR; rw [List.length_cons]; split <;> omega
theorem cntR_app : ∀ (a b : List (List UInt8)), cntR (a ++ b) = cntR a + cntR b
  | [], b => by simp [cntR]
  | x :: a, b => by rw [List.cons_append, cntR, cntR, cntR_app a b]; omega
theorem cntR_snoc (l : List (List UInt8)) (k : Nat) (d : List UInt8) (h : k < l.length) : cntR (l.take (k + 1)) = cntR (l.take k) + if bz (l.getD k d) then 1 else 0 := by
  rw [take_snoc l k d h, cntR_app]; rfl
theorem cntR_hit (l : List (List UInt8)) (k : Nat) (d : List UInt8) (h : k < l.length) (hb : bz (l.getD k d) = true) : cntR (l.take (k + 1)) = cntR (l.take k) + 1 := by
  rw [cntR_snoc l k d h, if_pos hb]
theorem cntR_miss (l : List (List UInt8)) (k : Nat) (d : List UInt8) (h : k < l.length) (hb : bz (l.getD k d) = false) : cntR (l.take (k + 1)) = cntR (l.take k) := by
  rw [cntR_snoc l k d h, hb]; rfl
def wAR (r : ARound) : ByteArray := str8 (Lib.itoa r.round) ++ str8 [58] ++ str8 (Lib.itoa (cntR r.db.rows))
def fAR (r : ARound) : List UInt8 := (wAR r).data.toList
end Go.Proofs.YtjknhnhcbadigaaDoor.G
namespace Go.Proofs.YtjknhnhcbadigaaDoor.G
set_option linter.all false
open Go.RowKit L D
set_option maxRecDepth 100000
theorem c_impl_orDash (l : List (List UInt8)) (c : UInt8) (h : lsz List.length l ≤ 1099511627776) : Sound ty Tryd.prog 39 [.a (.sl .str l), .a (.lit (.string (str8 [c])))] [.a (.lit (.string (orD l c)))] := by
  refine Sound.of X Tryd.call39 Tryd.func39 rfl rfl (by decide) Tryd.ntmps39 (by simp) ?_
  intro zb
  refine W.bound 0 rfl (fun hll => ?_)
  refine W.seq ?_
  refine W.reg X [] [] [0, 1] [] rfl ⟨⟩ ?_
  refine W.seq ?_
  refine W.seq ?_
  refine W.reg X [] [] [0, 1, 7] [] rfl ⟨⟩ ?_
  refine W.cond rfl (fun hb0 => ?_) (fun hb0 => ?_)
  · try simp only [nb, inr_t, inr_f, isEmpty_t] at hb0
    refine W.seq ?_
    refine W.reg X [] [] [4] [] rfl ⟨⟩ ?_
    refine W.ret ?_
    exact Fin.ret rfl ⟨by unfold orD; rw [if_pos (by omega)]; rfl, ⟨⟩⟩
  · try simp only [nb, inr_t, inr_f, isEmpty_t] at hb0
    refine W.skip ?_
    refine W.seq ?_
    refine W.reg X [] [(10, ⟨false, [.a (.lit (.string (str8 (Lib.join l [c]))))]⟩)] [4] [] rfl (by (repeat' (first | with_reducible exact AllP.nil | with_reducible refine AllP.mk ?_ ?_ | with_reducible apply And.intro)) <;> skip; (iterate 1 (all_goals try (first | exact (c_strings_Join l c h) | exact fun _ => (c_strings_Join l c h) | exact fun _ _ => (c_strings_Join l c h)))); all_goals (first | (intros; omega) | exact rfl | exact El_all _ (by decide) | exact ⟨rfl, El_all _ (by decide)⟩ | ((intro h1; first | (intro h2; first | (intro h3; refine And.intro ?_ ?_) | refine And.intro ?_ ?_) | refine And.intro ?_ ?_) <;> first | omega | ((try simp only [nb, inr_t, inr_f] at *); (try simp (disch := omega) only [i64w]); omega)) | ((try simp only [nb, inr_t, inr_f] at *); (simp (disch := omega) only [i64w]); omega) | (refine fun _ => ?_; dsimp only [hyps, imps]; omega) | (refine fun _ _ => ?_; dsimp only [hyps, imps]; omega) | exact (u8w _).1 | exact (u8w _).2 | exact (u8n _).1 | exact (u8n _).2 | (simp only [byt, maxLen, lens]; omega) | (intros; simp only [nb] at *; omega))) ?_
    refine W.ret ?_
    exact Fin.ret rfl ⟨by unfold orD; rw [if_neg (by omega)], ⟨⟩⟩
end Go.Proofs.YtjknhnhcbadigaaDoor.G
namespace Go.Proofs.YtjknhnhcbadigaaDoor.G
set_option linter.all false
open Go.RowKit L D
theorem ar_len {l : List ARound} (h : ∀ y, y ∈ l → wf_ARound y) (hz : ∀ y, y ∈ l → y.db.rows.length ≤ 1048576) : ∀ y, y ∈ l → (fAR y).length ≤ 43 := by
  intro y hy
  obtain ⟨q1, _⟩ := h y hy
  have z1 := itoa_sz q1
  have h2 := cntR_le y.db.rows
  have h3 := hz y hy
  have z2 := itoa_sz (n := (cntR y.db.rows : Int)) (by omega)
  show (wAR y).size ≤ 43
  unfold wAR
  simp only [ByteArray.size_append, str8_size, List.length_cons, List.length_nil] at *
  omega
def fArc (a : Arc) : ByteArray := orD (a.rounds.map fAR) 32
end Go.Proofs.YtjknhnhcbadigaaDoor.G
namespace Go.Proofs.YtjknhnhcbadigaaDoor.G
set_option linter.all false
open Go.RowKit L D
set_option maxRecDepth 100000
theorem c_slices_IndexFunc_byte_byte (l : List UInt8) (f : FuncId) (p : UInt8 → Bool) (hf : ∀ b, Sound ty Tryd.prog f [.a (.lit (.int .u8 (b.toNat : Int)))] [.a (.lit (.bool (p b)))]) : Sound ty Tryd.prog 97 [.a (.sl .u8 l), .a (.lit (.func (.func f) #[] #[]))] [.a (.lit (.int .i64 (fidx p l)))] := by
  refine Sound.of X Tryd.call97 Tryd.func97 rfl rfl (by decide) Tryd.ntmps97 (by simp) ?_
  intro zb
  refine W.bound 0 rfl (fun hll => ?_)
  refine W.seq ?_
  refine W.reg X [] [] [0, 1] [] rfl ⟨⟩ ?_
  refine W.seq ?_
  refine W.seq ?_
  refine W.reg X [] [] [0, 1, 7, 8] [] rfl ⟨⟩ ?_
  refine W.block ?_
  refine W.loopO (fun k => k ≤ l.length ∧ (l.take k).any p = false) (fun k : Nat => [(8, .one (.a (.lit (.int .i64 k))))]) (fun k => []) (fun k => l.length - k) 0 (fun k => rfl) ⟨Nat.zero_le _, rfl⟩ rfl ?_
  rintro k ⟨hk, hall⟩
  refine W.seq ?_
  refine W.reg X [] [] [0, 1, 7, 8, 9] [] rfl ⟨⟩ ?_
  refine W.seq ?_
  refine W.cond rfl (fun hb0 => ?_) (fun hb0 => ?_)
  · try simp only [nb, inr_t, inr_f, isEmpty_t] at hb0
    refine W.skip ?_
    refine W.seq ?_
    refine W.block ?_
    refine W.seq ?_
    refine W.reg X [] [] [0, 1, 5, 7, 8] [] rfl ⟨⟩ ?_
    refine W.seq ?_
    refine W.reg X [] [(16, ⟨false, [.a (.lit (.bool (p (l.getD k (dfl .u8)))))]⟩)] [0, 1, 5, 7, 8, 16] [] rfl (by (repeat' (first | with_reducible exact AllP.nil | with_reducible refine AllP.mk ?_ ?_ | with_reducible apply And.intro)) <;> skip; (iterate 1 (all_goals try (first | exact (hf _) | exact fun _ => (hf _) | exact fun _ _ => (hf _)))); all_goals (first | (intros; omega) | exact rfl | exact El_all _ (by decide) | exact ⟨rfl, El_all _ (by decide)⟩ | ((intro h1; first | (intro h2; first | (intro h3; refine And.intro ?_ ?_) | refine And.intro ?_ ?_) | refine And.intro ?_ ?_) <;> first | omega | ((try simp only [nb, inr_t, inr_f] at *); (try simp (disch := omega) only [i64w]); omega)) | ((try simp only [nb, inr_t, inr_f] at *); (simp (disch := omega) only [i64w]); omega) | (refine fun _ => ?_; dsimp only [hyps, imps]; omega) | (refine fun _ _ => ?_; dsimp only [hyps, imps]; omega) | exact (u8w _).1 | exact (u8w _).2 | exact (u8n _).1 | exact (u8n _).2 | (simp only [byt, maxLen, lens]; omega) | (intros; simp only [nb] at *; omega))) ?_
    refine W.cond rfl (fun hb1 => ?_) (fun hb1 => ?_)
    · skip
      refine W.seq ?_
      refine W.reg X [] [] [4] [] rfl ⟨⟩ ?_
      refine W.ret ?_
      exact Fin.ret rfl ⟨by rw [fidx_hit (dfl .u8) hb0 hall hb1], ⟨⟩⟩
    · skip
      refine W.skip ?_
      refine W.reg X [] [] [0, 1, 7, 8] [] rfl ⟨⟩ ?_
      refine ⟨k + 1, ⟨by omega, any_no (dfl .u8) hb0 hall hb1⟩, by omega, ?_⟩
      rw [wadd _ k rfl (by omega)]
      try rfl
  · try simp only [nb, inr_t, inr_f, isEmpty_t] at hb0
    refine W.exit ?_
    refine W.seq ?_
    refine W.reg X [] [] [4] [] rfl ⟨⟩ ?_
    refine W.ret ?_
    exact Fin.ret rfl ⟨by rw [fidx_miss (by rw [← hall, List.take_of_length_le hb0])], ⟨⟩⟩
theorem c_slices_ContainsFunc_byte_byte (l : List UInt8) (f : FuncId) (p : UInt8 → Bool) (hf : ∀ b, Sound ty Tryd.prog f [.a (.lit (.int .u8 (b.toNat : Int)))] [.a (.lit (.bool (p b)))]) : Sound ty Tryd.prog 91 [.a (.sl .u8 l), .a (.lit (.func (.func f) #[] #[]))] [.a (.lit (.bool (l.any p)))] := by
  refine Sound.of X Tryd.call91 Tryd.func91 rfl rfl (by decide) Tryd.ntmps91 (by simp) ?_
  intro zb
  refine W.seq ?_
  refine W.reg X [] [] [0, 1] [] rfl ⟨⟩ ?_
  refine W.seq ?_
  refine W.reg X [] [(7, ⟨false, [.a (.lit (.int .i64 (fidx p l)))]⟩)] [4] [] rfl (by (repeat' (first | with_reducible exact AllP.nil | with_reducible refine AllP.mk ?_ ?_ | with_reducible apply And.intro)) <;> skip; (iterate 1 (all_goals try (first | exact (c_slices_IndexFunc_byte_byte l f p hf) | exact fun _ => (c_slices_IndexFunc_byte_byte l f p hf) | exact fun _ _ => (c_slices_IndexFunc_byte_byte l f p hf)))); all_goals (first | (intros; omega) | exact rfl | exact El_all _ (by decide) | exact ⟨rfl, El_all _ (by decide)⟩ | ((intro h1; first | (intro h2; first | (intro h3; refine And.intro ?_ ?_) | refine And.intro ?_ ?_) | refine And.intro ?_ ?_) <;> first | omega | ((try simp only [nb, inr_t, inr_f] at *); (try simp (disch := omega) only [i64w]); omega)) | ((try simp only [nb, inr_t, inr_f] at *); (simp (disch := omega) only [i64w]); omega) | (refine fun _ => ?_; dsimp only [hyps, imps]; omega) | (refine fun _ _ => ?_; dsimp only [hyps, imps]; omega) | exact (u8w _).1 | exact (u8w _).2 | exact (u8n _).1 | exact (u8n _).2 | (simp only [byt, maxLen, lens]; omega) | (intros; simp only [nb] at *; omega))) ?_
  refine W.ret ?_
  exact Fin.ret rfl ⟨congrArg Value.bool (fidx_ge p l), ⟨⟩⟩
theorem c_impl_IsZeroBytes_1 (c : UInt8) : Sound ty Tryd.prog 92 [.a (.lit (.int .u8 (c.toNat : Int)))] [.a (.lit (.bool ((c.toNat : Int) != 0)))] := by
  refine Sound.of X Tryd.call92 Tryd.func92 rfl rfl (by decide) Tryd.ntmps92 (by simp) ?_
  intro zb
  refine W.seq ?_
  refine W.reg X [] [] [0] [] rfl ⟨⟩ ?_
  refine W.seq ?_
  refine W.reg X [] [] [2] [] rfl ⟨⟩ ?_
  refine W.ret ?_
  exact Fin.ret rfl ⟨rfl, ⟨⟩⟩
theorem c_impl_IsZeroBytes (b : List UInt8) : Sound ty Tryd.prog 76 [.a (.sl .u8 b)] [.a (.lit (.bool (!bz b)))] := by
  refine Sound.of X Tryd.call76 Tryd.func76 rfl rfl (by decide) Tryd.ntmps76 (by simp) ?_
  intro zb
  refine W.seq ?_
  refine W.reg X [] [] [0] [] rfl ⟨⟩ ?_
  refine W.seq ?_
  refine W.reg X [] [(4, ⟨false, [.a (.lit (.bool (b.any fun c => (c.toNat : Int) != 0)))]⟩)] [2] [] rfl (by (repeat' (first | with_reducible exact AllP.nil | with_reducible refine AllP.mk ?_ ?_ | with_reducible apply And.intro)) <;> skip; (iterate 1 (all_goals try (first | exact (c_slices_ContainsFunc_byte_byte _ _ _ c_impl_IsZeroBytes_1) | exact fun _ => (c_slices_ContainsFunc_byte_byte _ _ _ c_impl_IsZeroBytes_1) | exact fun _ _ => (c_slices_ContainsFunc_byte_byte _ _ _ c_impl_IsZeroBytes_1)))); all_goals (first | (intros; omega) | exact rfl | exact El_all _ (by decide) | exact ⟨rfl, El_all _ (by decide)⟩ | ((intro h1; first | (intro h2; first | (intro h3; refine And.intro ?_ ?_) | refine And.intro ?_ ?_) | refine And.intro ?_ ?_) <;> first | omega | ((try simp only [nb, inr_t, inr_f] at *); (try simp (disch := omega) only [i64w]); omega)) | ((try simp only [nb, inr_t, inr_f] at *); (simp (disch := omega) only [i64w]); omega) | (refine fun _ => ?_; dsimp only [hyps, imps]; omega) | (refine fun _ _ => ?_; dsimp only [hyps, imps]; omega) | exact (u8w _).1 | exact (u8w _).2 | exact (u8n _).1 | exact (u8n _).2 | (simp only [byt, maxLen, lens]; omega) | (intros; simp only [nb] at *; omega))) ?_
  refine W.ret ?_
  exact Fin.ret rfl ⟨rfl, ⟨⟩⟩
theorem c_spec_IsZeroBytes (b : List UInt8) : Sound ty Tryd.prog 74 [.a (.sl .u8 b)] [.a (.lit (.bool (!bz b)))] := by
  refine Sound.of X Tryd.call74 Tryd.func74 rfl rfl (by decide) Tryd.ntmps74 (by simp) ?_
  intro zb
  refine W.bound 0 rfl (fun hll => ?_)
  refine W.seq ?_
  refine W.reg X [] [] [0] [] rfl ⟨⟩ ?_
  refine W.seq ?_
  refine W.seq ?_
  refine W.reg X [] [] [0, 3] [] rfl ⟨⟩ ?_
  refine W.block ?_
  refine W.loopO (fun k => k ≤ b.length ∧ (b.take k).any (fun c => (c.toNat : Int) != 0) = false) (fun k : Nat => [(3, .one (.a (.lit (.int .i64 k))))]) (fun k => []) (fun k => b.length - k) 0 (fun k => rfl) ⟨Nat.zero_le _, rfl⟩ rfl ?_
  rintro k ⟨hk, hall⟩
  refine W.seq ?_
  refine W.seq ?_
  refine W.reg X [] [] [0, 3, 7] [] rfl ⟨⟩ ?_
  refine W.cond rfl (fun hb0 => ?_) (fun hb0 => ?_)
  · try simp only [nb, inr_t, inr_f, isEmpty_t] at hb0
    refine W.skip ?_
    refine W.seq ?_
    refine W.block ?_
    refine W.seq ?_
    refine W.reg X [] [] [0, 3, 14] [] rfl (by (repeat' (first | exact True.intro | apply And.intro)) <;> first | (intros; omega) | exact rfl | exact El_all _ (by decide) | exact ⟨rfl, El_all _ (by decide)⟩ | ((intro h1; first | (intro h2; first | (intro h3; refine And.intro ?_ ?_) | refine And.intro ?_ ?_) | refine And.intro ?_ ?_) <;> first | omega | ((try simp only [nb, inr_t, inr_f] at *); (try simp (disch := omega) only [i64w]); omega)) | ((try simp only [nb, inr_t, inr_f] at *); (simp (disch := omega) only [i64w]); omega) | (refine fun _ => ?_; dsimp only [hyps, imps]; omega) | (refine fun _ _ => ?_; dsimp only [hyps, imps]; omega) | exact (u8w _).1 | exact (u8w _).2 | exact (u8n _).1 | exact (u8n _).2 | (simp only [byt, maxLen, lens]; omega) | (intros; simp only [nb] at *; omega)) ?_
    refine W.cond rfl (fun hb1 => ?_) (fun hb1 => ?_)
    · skip
      refine W.seq ?_
      refine W.reg X [] [] [2] [] rfl ⟨⟩ ?_
      refine W.ret ?_
      exact Fin.ret rfl ⟨by unfold bz; rw [any_yes b _ (dfl .u8) k hb0 hb1]; rfl, ⟨⟩⟩
    · skip
      refine W.skip ?_
      refine W.reg X [] [] [0, 3] [] rfl ⟨⟩ ?_
      refine ⟨k + 1, ⟨by omega, any_no (dfl .u8) hb0 hall hb1⟩, by omega, ?_⟩
      rw [wadd _ k rfl (by omega)]
      try rfl
  · try simp only [nb, inr_t, inr_f, isEmpty_t] at hb0
    refine W.exit ?_
    refine W.seq ?_
    refine W.reg X [] [] [2] [] rfl ⟨⟩ ?_
    refine W.ret ?_
    exact Fin.ret rfl ⟨by rw [List.take_of_length_le hb0] at hall; unfold bz; rw [hall]; rfl, ⟨⟩⟩
theorem c_impl_CountRowsWritten (d : DB) : Sound ty Tryd.prog 50 [.agg (dec_DB d)] [.a (.lit (.int .i64 ((cntR d.rows : Nat) : Int)))] := by
  refine Sound.of X Tryd.call50 Tryd.func50 rfl rfl (by decide) Tryd.ntmps50 (by simp) ?_
  intro zb
  refine W.boundA 0 0 rfl rfl (fun hll => ?_)
  refine W.seq ?_
  refine W.reg X [] [] [1] [] rfl ⟨⟩ ?_
  refine W.seq ?_
  refine W.reg X [] [] [1, 3] [] rfl ⟨⟩ ?_
  refine W.seq ?_
  refine W.seq ?_
  refine W.reg X [] [] [3, 7, 8, 9] [] rfl ⟨⟩ ?_
  refine W.block ?_
  refine W.loopO (fun k => k ≤ d.rows.length) (fun k : Nat => [(3, .one (.a (.lit (.int .i64 ((cntR (d.rows.take k) : Nat) : Int))))), (9, .one (.a (.lit (.int .i64 k))))]) (fun k => []) (fun k => d.rows.length - k) 0 (fun k => rfl) (Nat.zero_le _) rfl ?_
  intro k hk
  have hcl := cntR_le (d.rows.take k)
  have htl : (d.rows.take k).length ≤ k := List.length_take_le _ _
  refine W.seq ?_
  refine W.reg X [] [] [3, 7, 8, 9, 10] [] rfl ⟨⟩ ?_
  refine W.seq ?_
  refine W.cond rfl (fun hb0 => ?_) (fun hb0 => ?_)
  · try simp only [nb, inr_t, inr_f, isEmpty_t] at hb0
    refine W.skip ?_
    refine W.seq ?_
    refine W.block ?_
    refine W.seq ?_
    refine W.reg X [] [] [3, 5, 7, 8, 9] [] rfl (by (repeat' (first | exact True.intro | apply And.intro)) <;> first | (intros; omega) | exact rfl | exact El_all _ (by decide) | exact ⟨rfl, El_all _ (by decide)⟩ | ((intro h1; first | (intro h2; first | (intro h3; refine And.intro ?_ ?_) | refine And.intro ?_ ?_) | refine And.intro ?_ ?_) <;> first | omega | ((try simp only [nb, inr_t, inr_f] at *); (try simp (disch := omega) only [i64w]); omega)) | ((try simp only [nb, inr_t, inr_f] at *); (simp (disch := omega) only [i64w]); omega) | (refine fun _ => ?_; dsimp only [hyps, imps]; omega) | (refine fun _ _ => ?_; dsimp only [hyps, imps]; omega) | exact (u8w _).1 | exact (u8w _).2 | exact (u8n _).1 | exact (u8n _).2 | (simp only [byt, maxLen, lens]; omega) | (intros; simp only [nb] at *; omega)) ?_
    refine W.seq ?_
    refine W.reg X [] [(14, ⟨false, [.a (.lit (.bool (!bz (d.rows.getD k (dfl (.sl .u8))))))]⟩)] [3, 7, 8, 9, 15] [] rfl (by (repeat' (first | with_reducible exact AllP.nil | with_reducible refine AllP.mk ?_ ?_ | with_reducible apply And.intro)) <;> skip; (iterate 1 (all_goals try (first | exact (c_impl_IsZeroBytes (d.rows.getD k (dfl (.sl .u8)))) | exact fun _ => (c_impl_IsZeroBytes (d.rows.getD k (dfl (.sl .u8)))) | exact fun _ _ => (c_impl_IsZeroBytes (d.rows.getD k (dfl (.sl .u8))))))); all_goals (first | (intros; omega) | exact rfl | exact El_all _ (by decide) | exact ⟨rfl, El_all _ (by decide)⟩ | ((intro h1; first | (intro h2; first | (intro h3; refine And.intro ?_ ?_) | refine And.intro ?_ ?_) | refine And.intro ?_ ?_) <;> first | omega | ((try simp only [nb, inr_t, inr_f] at *); (try simp (disch := omega) only [i64w]); omega)) | ((try simp only [nb, inr_t, inr_f] at *); (simp (disch := omega) only [i64w]); omega) | (refine fun _ => ?_; dsimp only [hyps, imps]; omega) | (refine fun _ _ => ?_; dsimp only [hyps, imps]; omega) | exact (u8w _).1 | exact (u8w _).2 | exact (u8n _).1 | exact (u8n _).2 | (simp only [byt, maxLen, lens]; omega) | (intros; simp only [nb] at *; omega))) ?_
    refine W.cond rfl (fun hb1 => ?_) (fun hb1 => ?_)
    · have hs := cntR_hit d.rows k (dfl (.sl .u8)) hb0 (by simpa using hb1)
      refine W.reg X [] [] [3, 7, 8, 9] [] rfl ⟨⟩ ?_
      refine W.reg X [] [] [3, 7, 8, 9] [] rfl ⟨⟩ ?_
      refine ⟨k + 1, by omega, by omega, ?_⟩
      rw [wadd _ k rfl (by omega), wadd _ (cntR (d.rows.take k)) rfl (by omega), hs]
      try rfl
    · have hs := cntR_miss d.rows k (dfl (.sl .u8)) hb0 (by simpa using hb1)
      refine W.skip ?_
      refine W.reg X [] [] [3, 7, 8, 9] [] rfl ⟨⟩ ?_
      refine ⟨k + 1, by omega, by omega, ?_⟩
      rw [wadd _ k rfl (by omega), hs]
      try rfl
  · try simp only [nb, inr_t, inr_f, isEmpty_t] at hb0
    refine W.exit ?_
    refine W.seq ?_
    refine W.reg X [] [] [2] [] rfl ⟨⟩ ?_
    refine W.ret ?_
    exact Fin.ret rfl ⟨by rw [List.take_of_length_le hb0], ⟨⟩⟩
theorem c_spec_CountRowsWritten (d : DB) : Sound ty Tryd.prog 48 [.agg (dec_DB d)] [.a (.lit (.int .i64 ((cntR d.rows : Nat) : Int)))] := by
  refine Sound.of X Tryd.call48 Tryd.func48 rfl rfl (by decide) Tryd.ntmps48 (by simp) ?_
  intro zb
  refine W.boundA 0 0 rfl rfl (fun hll => ?_)
  refine W.seq ?_
  refine W.reg X [] [] [1] [] rfl ⟨⟩ ?_
  refine W.seq ?_
  refine W.reg X [] [] [1, 3] [] rfl ⟨⟩ ?_
  refine W.seq ?_
  refine W.seq ?_
  refine W.reg X [] [] [1, 3, 4] [] rfl ⟨⟩ ?_
  refine W.block ?_
  refine W.loopO (fun k => k ≤ d.rows.length) (fun k : Nat => [(3, .one (.a (.lit (.int .i64 ((cntR (d.rows.take k) : Nat) : Int))))), (4, .one (.a (.lit (.int .i64 k))))]) (fun k => []) (fun k => d.rows.length - k) 0 (fun k => rfl) (Nat.zero_le _) rfl ?_
  intro k hk
  have hcl := cntR_le (d.rows.take k)
  have htl : (d.rows.take k).length ≤ k := List.length_take_le _ _
  refine W.seq ?_
  refine W.seq ?_
  refine W.reg X [] [] [1, 3, 4, 9] [] rfl ⟨⟩ ?_
  refine W.cond rfl (fun hb0 => ?_) (fun hb0 => ?_)
  · try simp only [nb, inr_t, inr_f, isEmpty_t] at hb0
    refine W.skip ?_
    refine W.seq ?_
    refine W.block ?_
    refine W.seq ?_
    refine W.reg X [] [(17, ⟨false, [.a (.lit (.bool (!bz (d.rows.getD k (dfl (.sl .u8))))))]⟩)] [1, 3, 4, 18] [] rfl (by (repeat' (first | with_reducible exact AllP.nil | with_reducible refine AllP.mk ?_ ?_ | with_reducible apply And.intro)) <;> skip; (iterate 1 (all_goals try (first | exact (c_spec_IsZeroBytes (d.rows.getD k (dfl (.sl .u8)))) | exact fun _ => (c_spec_IsZeroBytes (d.rows.getD k (dfl (.sl .u8)))) | exact fun _ _ => (c_spec_IsZeroBytes (d.rows.getD k (dfl (.sl .u8))))))); all_goals (first | (intros; omega) | exact rfl | exact El_all _ (by decide) | exact ⟨rfl, El_all _ (by decide)⟩ | ((intro h1; first | (intro h2; first | (intro h3; refine And.intro ?_ ?_) | refine And.intro ?_ ?_) | refine And.intro ?_ ?_) <;> first | omega | ((try simp only [nb, inr_t, inr_f] at *); (try simp (disch := omega) only [i64w]); omega)) | ((try simp only [nb, inr_t, inr_f] at *); (simp (disch := omega) only [i64w]); omega) | (refine fun _ => ?_; dsimp only [hyps, imps]; omega) | (refine fun _ _ => ?_; dsimp only [hyps, imps]; omega) | exact (u8w _).1 | exact (u8w _).2 | exact (u8n _).1 | exact (u8n _).2 | (simp only [byt, maxLen, lens]; omega) | (intros; simp only [nb] at *; omega))) ?_
    refine W.cond rfl (fun hb1 => ?_) (fun hb1 => ?_)
    · have hs := cntR_hit d.rows k (dfl (.sl .u8)) hb0 (by simpa using hb1)
      refine W.reg X [] [] [1, 3, 4] [] rfl ⟨⟩ ?_
      refine W.reg X [] [] [1, 3, 4] [] rfl ⟨⟩ ?_
      refine ⟨k + 1, by omega, by omega, ?_⟩
      rw [wadd _ k rfl (by omega), wadd _ (cntR (d.rows.take k)) rfl (by omega), hs]
      try rfl
    · have hs := cntR_miss d.rows k (dfl (.sl .u8)) hb0 (by simpa using hb1)
      refine W.skip ?_
      refine W.reg X [] [] [1, 3, 4] [] rfl ⟨⟩ ?_
      refine ⟨k + 1, by omega, by omega, ?_⟩
      rw [wadd _ k rfl (by omega), hs]
      try rfl
  · try simp only [nb, inr_t, inr_f, isEmpty_t] at hb0
    refine W.exit ?_
    refine W.seq ?_
    refine W.reg X [] [] [2] [] rfl ⟨⟩ ?_
    refine W.ret ?_
    exact Fin.ret rfl ⟨by rw [List.take_of_length_le hb0], ⟨⟩⟩
theorem c_impl_FormatArchive (a : Arc) (hw : wf_Arc a) (hz : ∀ y, y ∈ a.rounds → y.db.rows.length ≤ 1048576) (hl : a.rounds.length ≤ 1048576) : Sound ty Tryd.prog 26 [.agg (dec_Arc a)] [.a (.lit (.string (fArc a)))] := by
  refine Sound.of X Tryd.call26 Tryd.func26 rfl rfl (by decide) Tryd.ntmps26 (by simp) ?_
  intro zb
  obtain ⟨_, hw2⟩ := hw
  have hlz := lsz_map fAR 43 a.rounds (ar_len hw2 hz)
  refine W.seq ?_
  refine W.reg X [] [] [1] [] rfl ⟨⟩ ?_
  refine W.seq ?_
  refine W.reg X [] [] [1, 3] [] rfl (by (repeat' (first | exact True.intro | apply And.intro)) <;> first | (intros; omega) | exact rfl | exact El_all _ (by decide) | exact ⟨rfl, El_all _ (by decide)⟩ | ((intro h1; first | (intro h2; first | (intro h3; refine And.intro ?_ ?_) | refine And.intro ?_ ?_) | refine And.intro ?_ ?_) <;> first | omega | ((try simp only [nb, inr_t, inr_f] at *); (try simp (disch := omega) only [i64w]); omega)) | ((try simp only [nb, inr_t, inr_f] at *); (simp (disch := omega) only [i64w]); omega) | (refine fun _ => ?_; dsimp only [hyps, imps]; omega) | (refine fun _ _ => ?_; dsimp only [hyps, imps]; omega) | exact (u8w _).1 | exact (u8w _).2 | exact (u8n _).1 | exact (u8n _).2 | (simp only [byt, maxLen, lens]; omega) | (intros; simp only [nb] at *; omega)) ?_
  refine W.seq ?_
  refine W.seq ?_
  refine W.reg X [] [] [3, 8, 9, 10] [] rfl ⟨⟩ ?_
  refine W.block ?_
  refine W.loopO (fun k => k ≤ a.rounds.length) (fun k : Nat => [(10, .one (.a (.lit (.int .i64 k))))]) (fun k => [(6, .arr .str ((a.rounds.map fAR).take k))]) (fun k => a.rounds.length - k) 0 (fun k => rfl) (Nat.zero_le _) rfl ?_
  intro k hk
  have htl : ((a.rounds.map fAR).take k).length ≤ 1048576 := by rw [List.length_take, List.length_map]; omega
  refine W.seq ?_
  refine W.reg X [] [] [3, 8, 9, 10, 11] [] rfl ⟨⟩ ?_
  refine W.seq ?_
  refine W.cond rfl (fun hb0 => ?_) (fun hb0 => ?_)
  · try simp only [nb, inr_t, inr_f, isEmpty_t] at hb0
    obtain ⟨q1, _⟩ := at_mem hw2 hb0 (dfl .ARound)
    have q2 := at_mem hz hb0 (dfl .ARound)
    have q3 := cntR_le (a.rounds.getD k (dfl .ARound)).db.rows
    have z1 := itoa_sz q1
    have z2 := itoa_sz (n := (cntR (a.rounds.getD k (dfl .ARound)).db.rows : Int)) (by omega)
    unfold I64 at q1
    have hat : (a.rounds.map fAR).getD k [] = fAR (a.rounds.getD k (dfl .ARound)) := map_at fAR hb0 _ _
    have hlm : (a.rounds.map fAR).length = a.rounds.length := List.length_map ..
    have hs : (a.rounds.map fAR).take (k + 1) = (a.rounds.map fAR).take k ++ [fAR (a.rounds.getD k (dfl .ARound))] := by rw [take_snoc _ k [] (by omega), hat]
    refine W.skip ?_
    refine W.seq ?_
    refine W.block ?_
    refine W.seq ?_
    refine W.reg X [] [] [3, 5, 8, 9, 10] [] rfl (by (repeat' (first | exact True.intro | apply And.intro)) <;> first | (intros; omega) | exact rfl | exact El_all _ (by decide) | exact ⟨rfl, El_all _ (by decide)⟩ | ((intro h1; first | (intro h2; first | (intro h3; refine And.intro ?_ ?_) | refine And.intro ?_ ?_) | refine And.intro ?_ ?_) <;> first | omega | ((try simp only [nb, inr_t, inr_f] at *); (try simp (disch := omega) only [i64w]); omega)) | ((try simp only [nb, inr_t, inr_f] at *); (simp (disch := omega) only [i64w]); omega) | (refine fun _ => ?_; dsimp only [hyps, imps]; omega) | (refine fun _ _ => ?_; dsimp only [hyps, imps]; omega) | exact (u8w _).1 | exact (u8w _).2 | exact (u8n _).1 | exact (u8n _).2 | (simp only [byt, maxLen, lens]; omega) | (intros; simp only [nb] at *; omega)) ?_
    refine W.draw X [(25, 6)] [(17, ⟨false, [.a (.lit (.string (str8 (Lib.itoa ((a.rounds.getD k (dfl .ARound)).round)))))]⟩), (21, ⟨false, [.a (.lit (.int .i64 ((cntR ((a.rounds.getD k (dfl .ARound)).db).rows : Nat) : Int)))]⟩), (22, ⟨false, [.a (.lit (.string (str8 (Lib.itoa ((cntR (a.rounds.getD k (dfl .ARound)).db.rows : Nat) : Int)))))]⟩)] [3, 8, 9, 10] [] 11 MO (by kernel_rfl) rfl (by (repeat' (first | with_reducible exact AllP.nil | with_reducible refine AllP.mk ?_ ?_ | with_reducible apply And.intro)) <;> skip; (iterate 6 (all_goals try (first | exact (c_impl_FormatInt ((a.rounds.getD k (dfl .ARound)).round) (by first | assumption | omega | (simp; done) | (simp; omega))) | exact fun _ => (c_impl_FormatInt ((a.rounds.getD k (dfl .ARound)).round) (by first | assumption | omega | (simp; done) | (simp; omega))) | exact fun _ _ => (c_impl_FormatInt ((a.rounds.getD k (dfl .ARound)).round) (by first | assumption | omega | (simp; done) | (simp; omega))) | exact (c_impl_CountRowsWritten ((a.rounds.getD k (dfl .ARound)).db)) | exact fun _ => (c_impl_CountRowsWritten ((a.rounds.getD k (dfl .ARound)).db)) | exact fun _ _ => (c_impl_CountRowsWritten ((a.rounds.getD k (dfl .ARound)).db)) | exact (c_impl_FormatInt ((cntR (a.rounds.getD k (dfl .ARound)).db.rows : Nat) : Int) (by first | assumption | omega | (simp; done) | (simp; omega))) | exact fun _ => (c_impl_FormatInt ((cntR (a.rounds.getD k (dfl .ARound)).db.rows : Nat) : Int) (by first | assumption | omega | (simp; done) | (simp; omega))) | exact fun _ _ => (c_impl_FormatInt ((cntR (a.rounds.getD k (dfl .ARound)).db.rows : Nat) : Int) (by first | assumption | omega | (simp; done) | (simp; omega))) | exact (by simp only [ByteArray.size_append, c1_sz, max64]; omega) | exact fun _ => (by simp only [ByteArray.size_append, c1_sz, max64]; omega) | exact fun _ _ => (by simp only [ByteArray.size_append, c1_sz, max64]; omega) | exact (by simp only [ByteArray.size_append, c1_sz, maxLen]; omega) | exact fun _ => (by simp only [ByteArray.size_append, c1_sz, maxLen]; omega) | exact fun _ _ => (by simp only [ByteArray.size_append, c1_sz, maxLen]; omega) | exact (by simp only [byt, maxLen, List.length_singleton]; omega) | exact fun _ => (by simp only [byt, maxLen, List.length_singleton]; omega) | exact fun _ _ => (by simp only [byt, maxLen, List.length_singleton]; omega)))); all_goals (first | (intros; omega) | exact rfl | exact El_all _ (by decide) | exact ⟨rfl, El_all _ (by decide)⟩ | ((intro h1; first | (intro h2; first | (intro h3; refine And.intro ?_ ?_) | refine And.intro ?_ ?_) | refine And.intro ?_ ?_) <;> first | omega | ((try simp only [nb, inr_t, inr_f] at *); (try simp (disch := omega) only [i64w]); omega)) | ((try simp only [nb, inr_t, inr_f] at *); (simp (disch := omega) only [i64w]); omega) | (refine fun _ => ?_; dsimp only [hyps, imps]; omega) | (refine fun _ _ => ?_; dsimp only [hyps, imps]; omega) | exact (u8w _).1 | exact (u8w _).2 | exact (u8n _).1 | exact (u8n _).2 | (simp only [byt, maxLen, lens]; omega) | (intros; simp only [nb] at *; omega))) ?_
    refine W.reg X [] [] [3, 8, 9, 10] [] rfl ⟨⟩ ?_
    refine ⟨k + 1, by omega, by omega, ?_⟩
    rw [wadd _ k rfl (by omega), hs]
    try rfl
  · try simp only [nb, inr_t, inr_f, isEmpty_t] at hb0
    have ht : (a.rounds.map fAR).take k = a.rounds.map fAR := List.take_of_length_le (by rw [List.length_map]; omega)
    refine W.exit ?_
    refine W.seq ?_
    refine W.reg X [] [(28, ⟨false, [.a (.lit (.string (orD ((a.rounds.map fAR).take k) 32)))]⟩)] [2] [] rfl (by (repeat' (first | with_reducible exact AllP.nil | with_reducible refine AllP.mk ?_ ?_ | with_reducible apply And.intro)) <;> skip; (iterate 1 (all_goals try (first | exact (c_impl_orDash _ 32 (by rw [ht]; omega)) | exact fun _ => (c_impl_orDash _ 32 (by rw [ht]; omega)) | exact fun _ _ => (c_impl_orDash _ 32 (by rw [ht]; omega))))); all_goals (first | (intros; omega) | exact rfl | exact El_all _ (by decide) | exact ⟨rfl, El_all _ (by decide)⟩ | ((intro h1; first | (intro h2; first | (intro h3; refine And.intro ?_ ?_) | refine And.intro ?_ ?_) | refine And.intro ?_ ?_) <;> first | omega | ((try simp only [nb, inr_t, inr_f] at *); (try simp (disch := omega) only [i64w]); omega)) | ((try simp only [nb, inr_t, inr_f] at *); (simp (disch := omega) only [i64w]); omega) | (refine fun _ => ?_; dsimp only [hyps, imps]; omega) | (refine fun _ _ => ?_; dsimp only [hyps, imps]; omega) | exact (u8w _).1 | exact (u8w _).2 | exact (u8n _).1 | exact (u8n _).2 | (simp only [byt, maxLen, lens]; omega) | (intros; simp only [nb] at *; omega))) ?_
    refine W.ret ?_
    exact Fin.ret rfl ⟨by rw [ht]; rfl, ⟨⟩⟩
theorem c_spec_FormatArchive (a : Arc) (hw : wf_Arc a) (hz : ∀ y, y ∈ a.rounds → y.db.rows.length ≤ 1048576) (hl : a.rounds.length ≤ 1048576) : Sound ty Tryd.prog 24 [.agg (dec_Arc a)] [.a (.lit (.string (fArc a)))] := by
  refine Sound.of X Tryd.call24 Tryd.func24 rfl rfl (by decide) Tryd.ntmps24 (by simp) ?_
  intro zb
  obtain ⟨_, hw2⟩ := hw
  have hlz := lsz_map fAR 43 a.rounds (ar_len hw2 hz)
  refine W.seq ?_
  refine W.reg X [] [] [1] [] rfl ⟨⟩ ?_
  refine W.seq ?_
  refine W.seq ?_
  refine W.reg X [] [] [1, 8] [] rfl ⟨⟩ ?_
  refine W.cond rfl (fun hb0 => ?_) (fun hb0 => ?_)
  · try simp only [nb, inr_t, inr_f, isEmpty_t] at hb0
    refine W.seq ?_
    refine W.reg X [] [] [2] [] rfl ⟨⟩ ?_
    refine W.ret ?_
    exact Fin.ret rfl ⟨by unfold fArc orD; rw [if_pos (by rw [List.length_map]; omega)]; rfl, ⟨⟩⟩
  · try simp only [nb, inr_t, inr_f, isEmpty_t] at hb0
    refine W.skip ?_
    refine W.seq ?_
    refine W.reg X [] [] [1, 3] [] rfl ⟨⟩ ?_
    refine W.seq ?_
    refine W.seq ?_
    refine W.reg X [] [] [1, 3, 4] [] rfl ⟨⟩ ?_
    refine W.block ?_
    refine W.loopO (fun k => k ≤ a.rounds.length) (fun k : Nat => [(3, .one (.a (.lit (.string (jn (a.rounds.map fAR) 32 k))))), (4, .one (.a (.lit (.int .i64 k))))]) (fun k => []) (fun k => a.rounds.length - k) 0 (fun k => rfl) (Nat.zero_le _) rfl ?_
    intro k hk
    have hjs := jn_sz (a.rounds.map fAR) 32 k
    refine W.seq ?_
    refine W.seq ?_
    refine W.reg X [] [] [1, 3, 4, 13] [] rfl ⟨⟩ ?_
    refine W.cond rfl (fun hb1 => ?_) (fun hb1 => ?_)
    · try simp only [nb, inr_t, inr_f, isEmpty_t] at hb1
      obtain ⟨q1, _⟩ := at_mem hw2 hb1 (dfl .ARound)
      have q2 := at_mem hz hb1 (dfl .ARound)
      have q3 := cntR_le (a.rounds.getD k (dfl .ARound)).db.rows
      have z1 := itoa_sz q1
      have z2 := itoa_sz (n := (cntR (a.rounds.getD k (dfl .ARound)).db.rows : Int)) (by omega)
      unfold I64 at q1
      have hat : (a.rounds.map fAR).getD k [] = fAR (a.rounds.getD k (dfl .ARound)) := map_at fAR hb1 _ _
      have hlm : (a.rounds.map fAR).length = a.rounds.length := List.length_map ..
      refine W.skip ?_
      refine W.seq ?_
      refine W.block ?_
      refine W.seq ?_
      refine W.seq ?_
      refine W.reg X [] [] [1, 3, 4, 17] [] rfl ⟨⟩ ?_
      refine W.cond rfl (fun hb2 => ?_) (fun hb2 => ?_)
      · try simp only [nb, inr_t, inr_f, isEmpty_t] at hb2
        have hs := jn_step (a.rounds.map fAR) 32 (k := k) (by omega) (by omega)
        rw [hat] at hs
        refine W.reg X [] [] [1, 3, 4] [] rfl (by (repeat' (first | with_reducible exact AllP.nil | with_reducible refine AllP.mk ?_ ?_ | with_reducible apply And.intro)) <;> skip; (iterate 3 (all_goals try (first | exact (by simp only [ByteArray.size_append, c1_sz, max64]; omega) | exact fun _ => (by simp only [ByteArray.size_append, c1_sz, max64]; omega) | exact fun _ _ => (by simp only [ByteArray.size_append, c1_sz, max64]; omega) | exact (by simp only [ByteArray.size_append, c1_sz, maxLen]; omega) | exact fun _ => (by simp only [ByteArray.size_append, c1_sz, maxLen]; omega) | exact fun _ _ => (by simp only [ByteArray.size_append, c1_sz, maxLen]; omega) | exact (by simp only [byt, maxLen, List.length_singleton]; omega) | exact fun _ => (by simp only [byt, maxLen, List.length_singleton]; omega) | exact fun _ _ => (by simp only [byt, maxLen, List.length_singleton]; omega)))); all_goals (first | (intros; omega) | exact rfl | exact El_all _ (by decide) | exact ⟨rfl, El_all _ (by decide)⟩ | ((intro h1; first | (intro h2; first | (intro h3; refine And.intro ?_ ?_) | refine And.intro ?_ ?_) | refine And.intro ?_ ?_) <;> first | omega | ((try simp only [nb, inr_t, inr_f] at *); (try simp (disch := omega) only [i64w]); omega)) | ((try simp only [nb, inr_t, inr_f] at *); (simp (disch := omega) only [i64w]); omega) | (refine fun _ => ?_; dsimp only [hyps, imps]; omega) | (refine fun _ _ => ?_; dsimp only [hyps, imps]; omega) | exact (u8w _).1 | exact (u8w _).2 | exact (u8n _).1 | exact (u8n _).2 | (simp only [byt, maxLen, lens]; omega) | (intros; simp only [nb] at *; omega))) ?_
        refine W.draw X [] [(27, ⟨false, [.a (.lit (.string (str8 (Lib.itoa ((a.rounds.getD k (dfl .ARound)).round)))))]⟩), (36, ⟨false, [.a (.lit (.int .i64 ((cntR ((a.rounds.getD k (dfl .ARound)).db).rows : Nat) : Int)))]⟩), (37, ⟨false, [.a (.lit (.string (str8 (Lib.itoa ((cntR (a.rounds.getD k (dfl .ARound)).db.rows : Nat) : Int)))))]⟩)] [1, 3, 4] [] 20 MO (by kernel_rfl) rfl (by (repeat' (first | with_reducible exact AllP.nil | with_reducible refine AllP.mk ?_ ?_ | with_reducible apply And.intro)) <;> skip; (iterate 6 (all_goals try (first | exact (c_spec_FormatInt ((a.rounds.getD k (dfl .ARound)).round) (by first | assumption | omega | (simp; done) | (simp; omega))) | exact fun _ => (c_spec_FormatInt ((a.rounds.getD k (dfl .ARound)).round) (by first | assumption | omega | (simp; done) | (simp; omega))) | exact fun _ _ => (c_spec_FormatInt ((a.rounds.getD k (dfl .ARound)).round) (by first | assumption | omega | (simp; done) | (simp; omega))) | exact (c_spec_CountRowsWritten ((a.rounds.getD k (dfl .ARound)).db)) | exact fun _ => (c_spec_CountRowsWritten ((a.rounds.getD k (dfl .ARound)).db)) | exact fun _ _ => (c_spec_CountRowsWritten ((a.rounds.getD k (dfl .ARound)).db)) | exact (c_spec_FormatInt ((cntR (a.rounds.getD k (dfl .ARound)).db.rows : Nat) : Int) (by first | assumption | omega | (simp; done) | (simp; omega))) | exact fun _ => (c_spec_FormatInt ((cntR (a.rounds.getD k (dfl .ARound)).db.rows : Nat) : Int) (by first | assumption | omega | (simp; done) | (simp; omega))) | exact fun _ _ => (c_spec_FormatInt ((cntR (a.rounds.getD k (dfl .ARound)).db.rows : Nat) : Int) (by first | assumption | omega | (simp; done) | (simp; omega))) | exact (by simp only [ByteArray.size_append, c1_sz, max64]; omega) | exact fun _ => (by simp only [ByteArray.size_append, c1_sz, max64]; omega) | exact fun _ _ => (by simp only [ByteArray.size_append, c1_sz, max64]; omega) | exact (by simp only [ByteArray.size_append, c1_sz, maxLen]; omega) | exact fun _ => (by simp only [ByteArray.size_append, c1_sz, maxLen]; omega) | exact fun _ _ => (by simp only [ByteArray.size_append, c1_sz, maxLen]; omega) | exact (by simp only [byt, maxLen, List.length_singleton]; omega) | exact fun _ => (by simp only [byt, maxLen, List.length_singleton]; omega) | exact fun _ _ => (by simp only [byt, maxLen, List.length_singleton]; omega)))); all_goals (first | (intros; omega) | exact rfl | exact El_all _ (by decide) | exact ⟨rfl, El_all _ (by decide)⟩ | ((intro h1; first | (intro h2; first | (intro h3; refine And.intro ?_ ?_) | refine And.intro ?_ ?_) | refine And.intro ?_ ?_) <;> first | omega | ((try simp only [nb, inr_t, inr_f] at *); (try simp (disch := omega) only [i64w]); omega)) | ((try simp only [nb, inr_t, inr_f] at *); (simp (disch := omega) only [i64w]); omega) | (refine fun _ => ?_; dsimp only [hyps, imps]; omega) | (refine fun _ _ => ?_; dsimp only [hyps, imps]; omega) | exact (u8w _).1 | exact (u8w _).2 | exact (u8n _).1 | exact (u8n _).2 | (simp only [byt, maxLen, lens]; omega) | (intros; simp only [nb] at *; omega))) ?_
        refine W.reg X [] [] [1, 3, 4] [] rfl ⟨⟩ ?_
        refine ⟨k + 1, by omega, by omega, ?_⟩
        rw [wadd _ k rfl (by omega), hs]
        rw [show str8 (fAR (a.rounds.getD k (dfl .ARound))) = wAR (a.rounds.getD k (dfl .ARound)) from rfl]
        simp only [wAR, ByteArray.append_assoc]
        try rfl
      · try simp only [nb, inr_t, inr_f, isEmpty_t] at hb2
        have hs := jn_first (a.rounds.map fAR) 32 (k := k) (by omega) (by omega)
        rw [hat] at hs
        refine W.skip ?_
        refine W.draw X [] [(27, ⟨false, [.a (.lit (.string (str8 (Lib.itoa ((a.rounds.getD k (dfl .ARound)).round)))))]⟩), (36, ⟨false, [.a (.lit (.int .i64 ((cntR ((a.rounds.getD k (dfl .ARound)).db).rows : Nat) : Int)))]⟩), (37, ⟨false, [.a (.lit (.string (str8 (Lib.itoa ((cntR (a.rounds.getD k (dfl .ARound)).db.rows : Nat) : Int)))))]⟩)] [1, 3, 4] [] 20 MO (by kernel_rfl) rfl (by (repeat' (first | with_reducible exact AllP.nil | with_reducible refine AllP.mk ?_ ?_ | with_reducible apply And.intro)) <;> skip; (iterate 6 (all_goals try (first | exact (c_spec_FormatInt ((a.rounds.getD k (dfl .ARound)).round) (by first | assumption | omega | (simp; done) | (simp; omega))) | exact fun _ => (c_spec_FormatInt ((a.rounds.getD k (dfl .ARound)).round) (by first | assumption | omega | (simp; done) | (simp; omega))) | exact fun _ _ => (c_spec_FormatInt ((a.rounds.getD k (dfl .ARound)).round) (by first | assumption | omega | (simp; done) | (simp; omega))) | exact (c_spec_CountRowsWritten ((a.rounds.getD k (dfl .ARound)).db)) | exact fun _ => (c_spec_CountRowsWritten ((a.rounds.getD k (dfl .ARound)).db)) | exact fun _ _ => (c_spec_CountRowsWritten ((a.rounds.getD k (dfl .ARound)).db)) | exact (c_spec_FormatInt ((cntR (a.rounds.getD k (dfl .ARound)).db.rows : Nat) : Int) (by first | assumption | omega | (simp; done) | (simp; omega))) | exact fun _ => (c_spec_FormatInt ((cntR (a.rounds.getD k (dfl .ARound)).db.rows : Nat) : Int) (by first | assumption | omega | (simp; done) | (simp; omega))) | exact fun _ _ => (c_spec_FormatInt ((cntR (a.rounds.getD k (dfl .ARound)).db.rows : Nat) : Int) (by first | assumption | omega | (simp; done) | (simp; omega))) | exact (by simp only [ByteArray.size_append, c1_sz, max64]; omega) | exact fun _ => (by simp only [ByteArray.size_append, c1_sz, max64]; omega) | exact fun _ _ => (by simp only [ByteArray.size_append, c1_sz, max64]; omega) | exact (by simp only [ByteArray.size_append, c1_sz, maxLen]; omega) | exact fun _ => (by simp only [ByteArray.size_append, c1_sz, maxLen]; omega) | exact fun _ _ => (by simp only [ByteArray.size_append, c1_sz, maxLen]; omega) | exact (by simp only [byt, maxLen, List.length_singleton]; omega) | exact fun _ => (by simp only [byt, maxLen, List.length_singleton]; omega) | exact fun _ _ => (by simp only [byt, maxLen, List.length_singleton]; omega)))); all_goals (first | (intros; omega) | exact rfl | exact El_all _ (by decide) | exact ⟨rfl, El_all _ (by decide)⟩ | ((intro h1; first | (intro h2; first | (intro h3; refine And.intro ?_ ?_) | refine And.intro ?_ ?_) | refine And.intro ?_ ?_) <;> first | omega | ((try simp only [nb, inr_t, inr_f] at *); (try simp (disch := omega) only [i64w]); omega)) | ((try simp only [nb, inr_t, inr_f] at *); (simp (disch := omega) only [i64w]); omega) | (refine fun _ => ?_; dsimp only [hyps, imps]; omega) | (refine fun _ _ => ?_; dsimp only [hyps, imps]; omega) | exact (u8w _).1 | exact (u8w _).2 | exact (u8n _).1 | exact (u8n _).2 | (simp only [byt, maxLen, lens]; omega) | (intros; simp only [nb] at *; omega))) ?_
        refine W.reg X [] [] [1, 3, 4] [] rfl ⟨⟩ ?_
        refine ⟨k + 1, by omega, by omega, ?_⟩
        rw [wadd _ k rfl (by omega), hs]
        rw [show str8 (fAR (a.rounds.getD k (dfl .ARound))) = wAR (a.rounds.getD k (dfl .ARound)) from rfl]
        simp only [wAR, ByteArray.append_assoc]
        try rfl
    · try simp only [nb, inr_t, inr_f, isEmpty_t] at hb1
      refine W.exit ?_
      refine W.seq ?_
      refine W.reg X [] [] [2] [] rfl ⟨⟩ ?_
      refine W.ret ?_
      exact Fin.ret rfl ⟨by unfold fArc; rw [jn_all _ _ (by rw [List.length_map]; omega) (by rw [List.length_map]; omega)], ⟨⟩⟩
end Go.Proofs.YtjknhnhcbadigaaDoor.G
namespace Go.Proofs.YtjknhnhcbadigaaDoor.G
set_option linter.all false
open Go.RowKit L D
set_option maxRecDepth 100000
theorem arc_rows {l : List ARound} (h : lsz size_ARound l ≤ 1048576) : ∀ y, y ∈ l → y.db.rows.length ≤ 1048576 := by
  intro y hy
  obtain ⟨i, hi⟩ := List.mem_iff_getElem?.1 hy
  exact lsz_len (f := List.length) (lsz_mem h hi)
theorem c_FnExactFormatArchive (x0 : Arc) (h_x0 : (wf_Arc) x0) : Sound ty Tryd.prog 6 [.agg (dec_Arc x0)] [.a (.lit (.bool true))] := by
  refine Sound.of X Tryd.call6 Tryd.func6 rfl rfl (by decide) Tryd.ntmps6 (by simp) ?_
  intro zb
  refine W.seq ?_
  refine W.reg X [] [] [1] [] rfl ⟨⟩ ?_
  refine W.seq ?_
  refine W.reg X [] [] [1, 3] [] rfl ⟨⟩ ?_
  refine W.seq ?_
  refine W.reg X [] [(9, ⟨false, [.a (.lit (.int .i64 (szr (1048576) (size_Arc x0))))]⟩)] [1, 3] [] rfl ⟨c_szArchive x0 (1048576) (by omega) (by omega), ⟨⟩⟩ ?_
  refine W.seq ?_
  refine W.seq ?_
  refine W.reg X [] [] [1, 11] [] rfl ⟨⟩ ?_
  refine W.cond rfl (fun hb0 => ?_) (fun hb0 => ?_)
  · try simp only [nb] at hb0
    refine W.seq ?_
    refine W.reg X [] [] [2] [] rfl ⟨⟩ ?_
    refine W.ret ?_
    exact Fin.ret rfl ⟨rfl, ⟨⟩⟩
  · try simp only [nb] at hb0
    obtain ⟨e0, e0'⟩ := szr_pos hb0
    rw [e0]
    have hsz : lsz size_ARound x0.rounds ≤ 1048576 := (show size_Arc x0 ≤ 1048576 by omega)
    have hl := lsz_len hsz
    have hz := arc_rows hsz
    refine W.skip ?_
    refine W.seq ?_
    refine W.reg X [(13, 225)] [(13, ⟨true, [.agg (dec_Arc x0)]⟩), (14, ⟨false, [.a (.lit (.string (fArc x0)))]⟩)] [1, 4] [] rfl ⟨c_spec_FormatArchive x0 h_x0 hz hl, c_toArchive x0 (by omega), ⟨⟩⟩ ?_
    refine W.seq ?_
    refine W.reg X [(16, 275)] [(16, ⟨true, [.agg (dec_Arc x0)]⟩)] [1, 4, 5] [] rfl ⟨c_toArchive x0 (by omega), ⟨⟩⟩ ?_
    refine W.seq ?_
    refine W.reg X [] [(18, ⟨false, [.a (.lit (.string (fArc x0)))]⟩)] [1, 4, 5, 6] [] rfl ⟨c_impl_FormatArchive x0 h_x0 hz hl, ⟨⟩⟩ ?_
    refine W.seq ?_
    refine W.seq ?_
    refine W.reg X [] [] [1, 5, 21] [] rfl ⟨⟩ ?_
    refine W.cond rfl (fun hb1 => ?_) (fun hb1 => ?_)
    · exact absurd hb1 (by first | (simp; done) | (simp; omega))
    · clear hb1
      refine W.skip ?_
      refine W.seq ?_
      refine W.seq ?_
      refine W.draw X [(24, 325)] [(24, ⟨true, [.agg (dec_Arc x0)]⟩), (25, ⟨false, [.a (.lit (.bool true))]⟩)] [26] [] 5 MO (by kernel_rfl) rfl ⟨c_eqArchive x0, c_toArchive x0 (by omega), ⟨⟩⟩ ?_
      refine W.cond rfl (fun hb2 => ?_) (fun hb2 => ?_)
      · exact absurd hb2 (by first | (simp; done) | (simp; omega))
      · clear hb2
        refine W.skip ?_
        refine W.seq ?_
        refine W.reg X [] [] [2] [] rfl ⟨⟩ ?_
        refine W.ret ?_
        exact Fin.ret rfl ⟨rfl, ⟨⟩⟩
end Go.Proofs.YtjknhnhcbadigaaDoor.G
