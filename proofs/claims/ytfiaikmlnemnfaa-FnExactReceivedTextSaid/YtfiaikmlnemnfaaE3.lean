/-
  Contracts by the symbolic machine: is an inbox a prefix; equality of bytes and of lists of bytes.
-/
import Derived.Test.YtfiaikmlnemnfaaE1
namespace Go.Proofs.Ytfiaikmlnemnfaa.G
open Go.RowKit L D
/-- A slice has no more elements than a slice can have. -/
theorem W.bound {P : Program} {ty : Tag → Nat} {w0 : World} {c : Code} {Q : Post} {st : St} (d : Nat) {t : Tag} {l : List (T t)} (h : look st.sl d = some (.one (.a (.sl t l)))) (k : l.length ≤ 9223372036854775807 → W P ty w0 c Q st) : W P ty w0 c Q st := by
  intro a w iv
  obtain ⟨env, g⟩ := iv.good
  obtain ⟨fp, ⟨oa, cap, _, h1, h2, _⟩, _⟩ := g.slot d _ h
  have e : maxLen = 9223372036854775807 := by decide
  exact k (by omega) a w iv
def inr (x lo hi : Int) : Bool := if decide (x ≥ lo) then decide (x ≤ hi) else false
def hasC (x : Wld) (c : Int) : Bool := inr c 0 (IntKind.i64.wrap ((x.devices.length : Int) - 1))
def xor1 (c : Int) : Int := IntKind.i64.wrap (BitVec.ofInt IntKind.i64.bits c ^^^ BitVec.ofInt IntKind.i64.bits 1).toNat
theorem hasC_iff {x : Wld} {c : Int} (hd : x.devices.length ≤ 1048576) : hasC x c = true ↔ 0 ≤ c ∧ c < x.devices.length := by
  unfold hasC inr
  rw [IntWalk.i64_in _ (by omega)]
  by_cases h : c ≥ 0
  · simp only [decide_eq_true h, if_true, decide_eq_true_eq]; omega
  · rw [decide_eq_false h]; exact ⟨fun h' => by simp at h', fun h' => absurd h'.1 h⟩
theorem xor1_nat {k : Nat} (h : k < 2 ^ 63) : xor1 (k : Int) = ((k ^^^ 1 : Nat) : Int) := by
  have e1 : k ^^^ 1 < 2 ^ 63 := Nat.xor_lt_two_pow h (by decide)
  have e2 : (BitVec.ofInt 64 (k : Int)).toNat = k := by rw [BitVec.toNat_ofInt]; omega
  unfold xor1
  rw [show IntKind.i64.bits = 64 from rfl, BitVec.toNat_xor, e2, show (BitVec.ofInt 64 1).toNat = 1 from rfl, IntWalk.i64_in _ (by omega)]
theorem xor1_nonneg {c : Int} (h0 : 0 ≤ c) (h1 : c < 2 ^ 63) : 0 ≤ xor1 c := by
  obtain ⟨k, rfl⟩ := Int.eq_ofNat_of_zero_le h0
  rw [xor1_nat (by omega)]; omega
def pairOK (x : Wld) (c : Int) : Bool := if hasC x c then decide (xor1 c < x.devices.length) else false
theorem pairOK_iff {x : Wld} {c : Int} (hd : x.devices.length ≤ 1048576) : pairOK x c = true ↔ (0 ≤ c ∧ c < x.devices.length) ∧ 0 ≤ xor1 c ∧ xor1 c < x.devices.length := by
  have h := hasC_iff (x := x) (c := c) hd
  unfold pairOK
  cases hc : hasC x c with
  | false =>
    simp only [Bool.false_eq_true, if_false, false_iff]
    rintro ⟨h1, _⟩
    rw [h.2 h1] at hc; cases hc
  | true =>
    have h1 := h.1 hc
    have := xor1_nonneg h1.1 (by omega)
    simp only [if_true, decide_eq_true_eq]
    omega
theorem hasPair_eq {x : Wld} {c : Int} (hd : x.devices.length ≤ 1048576) : (if hasC x c then hasC x (xor1 c) else false) = pairOK x c := by
  unfold pairOK
  cases hc : hasC x c with
  | false => rfl
  | true =>
    have h1 := (hasC_iff hd).1 hc
    have := xor1_nonneg h1.1 (by omega)
    simp only [if_true]
    rw [Bool.eq_iff_iff, hasC_iff hd]
    simp only [decide_eq_true_eq]; omega
def isPre (a b : List (List UInt8)) : Bool := if decide ((a.length : Int) ≤ b.length) then a == (b.take (a.length : Int).toNat).drop (0 : Int).toNat else false
def prefixed (x : Wld) (c : Int) : Bool := if pairOK x c then isPre (x.devices.getD c.toNat (dfl .Dev)).live.inbox (x.devices.getD (xor1 c).toNat (dfl .Dev)).live.submitted else false
set_option maxRecDepth 100000
theorem c_spec_l1In (x lo hi : Int) : Sound ty Try.prog 70 [.a (.lit (.int .i64 x)), .a (.lit (.int .i64 lo)), .a (.lit (.int .i64 hi))] [.a (.lit (.bool (inr x lo hi)))] := by
  refine Sound.of X Try.call70 Try.func70 rfl rfl (by decide) Try.ntmps70 (by simp) ?_
  intro w0
  refine W.seq (W.reg X [] [] [2, 1, 0] [] rfl ⟨⟩ ?_)
  refine W.seq (W.reg X [] [] [6] [] rfl ⟨⟩ ?_)
  refine W.ret ?_
  exact Fin.ret rfl ⟨rfl, ⟨⟩⟩
theorem c_impl_InRange (x lo hi : Int) : Sound ty Try.prog 103 [.a (.lit (.int .i64 x)), .a (.lit (.int .i64 lo)), .a (.lit (.int .i64 hi))] [.a (.lit (.bool (inr x lo hi)))] := by
  refine Sound.of X Try.call103 Try.func103 rfl rfl (by decide) Try.ntmps103 (by simp) ?_
  intro w0
  refine W.seq (W.reg X [] [] [2, 1, 0] [] rfl ⟨⟩ ?_)
  refine W.seq (W.reg X [] [] [6] [] rfl ⟨⟩ ?_)
  refine W.ret ?_
  exact Fin.ret rfl ⟨rfl, ⟨⟩⟩
theorem c_impl_hasClient (x : Wld) (c : Int) : Sound ty Try.prog 71 [.agg (dec_Wld x), .a (.lit (.int .i64 c))] [.a (.lit (.bool (hasC x c)))] := by
  refine Sound.of X Try.call71 Try.func71 rfl rfl (by decide) Try.ntmps71 (by simp) ?_
  intro w0
  refine W.seq (W.reg X [(2, 2)] [] [2, 1] [2] rfl ⟨⟩ ?_)
  refine W.seq (W.reg X [] [(10, ⟨false, [.a (.lit (.bool (hasC x c)))]⟩)] [4] [] rfl ⟨c_impl_InRange _ _ _, ⟨⟩⟩ ?_)
  refine W.ret ?_
  exact Fin.ret rfl ⟨rfl, ⟨⟩⟩
theorem c_impl_hasPair (x : Wld) (c : Int) (hd : x.devices.length ≤ 1048576) : Sound ty Try.prog 62 [.agg (dec_Wld x), .a (.lit (.int .i64 c))] [.a (.lit (.bool (pairOK x c)))] := by
  refine Sound.of X Try.call62 Try.func62 rfl rfl (by decide) Try.ntmps62 (by simp) ?_
  intro w0
  refine W.seq (W.reg X [(2, 2)] [] [2, 1] [2] rfl ⟨⟩ ?_)
  refine W.seq (W.reg X [] [(7, ⟨false, [.a (.lit (.bool (hasC x c)))]⟩), (12, ⟨false, [.a (.lit (.bool (hasC x (xor1 c))))]⟩)] [4] [] rfl ⟨fun _ => c_impl_hasClient x (xor1 c), c_impl_hasClient x c, ⟨⟩⟩ ?_)
  refine W.ret ?_
  exact Fin.ret rfl ⟨by rw [← hasPair_eq hd], ⟨⟩⟩
theorem c_spec_l37Pair (x : Wld) (c : Int) : Sound ty Try.prog 67 [.agg (dec_Wld x), .a (.lit (.int .i64 c))] [.a (.lit (.bool (pairOK x c)))] := by
  refine Sound.of X Try.call67 Try.func67 rfl rfl (by decide) Try.ntmps67 (by simp) ?_
  intro w0
  refine W.seq (W.reg X [(2, 2)] [] [2, 1] [2] rfl ⟨⟩ ?_)
  refine W.seq (W.reg X [] [(10, ⟨false, [.a (.lit (.bool (hasC x c)))]⟩)] [4] [] rfl ⟨c_spec_l1In _ _ _, ⟨⟩⟩ ?_)
  refine W.ret ?_
  exact Fin.ret rfl ⟨rfl, ⟨⟩⟩
theorem c_spec_EqualBytes (a b : List UInt8) : Sound ty Try.prog 86 [.a (.sl .u8 a), .a (.sl .u8 b)] [.a (.lit (.bool (a == b)))] := by
  refine Sound.of X Try.call86 Try.func86 rfl rfl (by decide) Try.ntmps86 (by simp) ?_
  intro w0
  refine W.seq (W.reg X [] [] [1, 0] [] rfl ⟨⟩ ?_)
  refine W.seq (W.reg X [] [] [4] [] rfl ⟨⟩ ?_)
  refine W.ret ?_
  exact Fin.ret rfl ⟨by rw [ByteArray.toList_eq, ByteArray.toList_eq]; rfl, ⟨⟩⟩
theorem take_eq_step {α : Type} [DecidableEq α] (a b : List α) (d : α) (k : Nat) (ha : k < a.length) (hb : k < b.length) (h : a.take k = b.take k) (he : a.getD k d = b.getD k d) : a.take (k + 1) = b.take (k + 1) := by
  rw [take_snoc a k d ha, take_snoc b k d hb, h, he]
theorem ne_of_getD {α : Type} [BEq α] [LawfulBEq α] (a b : List α) (d : α) (k : Nat) (he : a.getD k d ≠ b.getD k d) : (a == b) = false := by
  rw [beq_eq_false_iff_ne]; rintro rfl; exact he rfl
theorem eq_of_take {α : Type} [BEq α] [LawfulBEq α] (a b : List α) (k : Nat) (hk : k = a.length) (hl : a.length = b.length) (h : a.take k = b.take k) : (a == b) = true := by
  rw [List.take_of_length_le (by omega), List.take_of_length_le (by omega)] at h
  rw [h]; simp
theorem ne_of_len {α : Type} [BEq α] [LawfulBEq α] (a b : List α) (hl : (a.length : Int) ≠ b.length) : (a == b) = false := by
  rw [beq_eq_false_iff_ne]; rintro rfl; exact hl rfl
theorem of_bne {x y : Int} (h : (x != y) = true) : x ≠ y := by simpa using h
theorem of_bne_false {x y : Int} (h : (x != y) = false) : x = y := by simpa using h
theorem u8_inj {x y : UInt8} (h : (x.toNat : Int) = y.toNat) : x = y := by
  have : x.toNat = y.toNat := by omega
  exact UInt8.toNat_inj.1 this
theorem c_slices_Equal (a b : List UInt8) : Sound ty Try.prog 127 [.a (.sl .u8 a), .a (.sl .u8 b)] [.a (.lit (.bool (a == b)))] := by
  refine Sound.of X Try.call127 Try.func127 rfl rfl (by decide) Try.ntmps127 (by simp) ?_
  intro w0
  refine W.seq (W.reg X [] [] [1, 0] [] rfl ⟨⟩ ?_)
  refine W.seq (W.seq (W.reg X [] [] [10, 1, 0] [] rfl ⟨⟩ ?_))
  refine W.cond rfl (fun hb => ?_) (fun hb => W.skip ?_)
  · refine W.seq (W.reg X [] [] [4] [] rfl ⟨⟩ ?_)
    refine W.ret ?_
    exact Fin.ret rfl ⟨by rw [ne_of_len a b (of_bne hb)], ⟨⟩⟩
  have hl : a.length = b.length := by have := of_bne_false hb; omega
  refine W.bound 0 rfl (fun hm => ?_)
  refine W.seq (W.seq (W.reg X [] [] [13, 12, 1, 0] [] rfl ⟨⟩ ?_))
  refine W.block ?_
  refine W.loop (fun k => k ≤ a.length ∧ a.take k = b.take k) (fun k : Nat => ⟨26, [(13, .one (.a (.lit (.int .i64 k)))), (12, .one (.a (.lit (.int .i64 a.length)))), (1, .one (.a (.sl .u8 b))), (0, .one (.a (.sl .u8 a)))], []⟩) (fun k => a.length - k) 0 ⟨Nat.zero_le _, rfl⟩ (Inv.of_eq rfl) ?_
  rintro k ⟨hk, ht⟩
  refine W.seq (W.reg X [] [] [14, 13, 12, 1, 0] [] rfl ⟨⟩ ?_)
  refine W.seq (W.cond rfl (fun hb => W.skip ?_) (fun hb => W.exit ?_))
  · have hk2 : k < a.length := by simpa using hb
    refine W.seq (W.block (W.seq (W.reg X [] [] [5, 13, 12, 1, 0] [] rfl ⟨⟩ ?_)))
    refine W.seq (W.draw X [] [] [24, 13, 12, 1, 0] [] 9 MO (by kernel_rfl) rfl ⟨by omega, by omega, ⟨⟩⟩ ?_)
    refine W.cond rfl (fun hb2 => ?_) (fun hb2 => W.skip ?_)
    · refine W.seq (W.reg X [] [] [4] [] rfl ⟨⟩ ?_)
      refine W.ret ?_
      exact Fin.ret rfl ⟨by rw [ne_of_getD a b 0 k (fun e => by have e2 := of_bne hb2; exact e2 (congrArg (fun x : UInt8 => (x.toNat : Int)) e))], ⟨⟩⟩
    · refine W.reg X [] [] [13, 12, 1, 0] [] rfl ⟨⟩ ?_
      refine ⟨k + 1, ⟨hk2, take_eq_step a b 0 k hk2 (by omega) ht (u8_inj (of_bne_false hb2))⟩, by omega, Inv.of_eq ?_⟩
      rw [wadd _ k rfl (by omega)]
      try rfl
  · have hk2 : k = a.length := by have : ¬ k < a.length := by simpa using hb
                                  omega
    refine W.seq (W.reg X [] [] [4] [] rfl ⟨⟩ ?_)
    refine W.ret ?_
    exact Fin.ret rfl ⟨by rw [eq_of_take a b k hk2 hl ht], ⟨⟩⟩
theorem c_impl_EqualBytes (a b : List UInt8) : Sound ty Try.prog 91 [.a (.sl .u8 a), .a (.sl .u8 b)] [.a (.lit (.bool (a == b)))] := by
  refine Sound.of X Try.call91 Try.func91 rfl rfl (by decide) Try.ntmps91 (by simp) ?_
  intro w0
  refine W.seq (W.reg X [] [] [1, 0] [] rfl ⟨⟩ ?_)
  refine W.seq (W.reg X [] [(7, ⟨false, [.a (.lit (.bool (a == b)))]⟩)] [4] [] rfl ⟨c_slices_Equal a b, ⟨⟩⟩ ?_)
  refine W.ret ?_
  exact Fin.ret rfl ⟨rfl, ⟨⟩⟩
theorem c_spec_EqualLists (a b : List (List UInt8)) : Sound ty Try.prog 68 [.a (.sl (.sl .u8) a), .a (.sl (.sl .u8) b)] [.a (.lit (.bool (a == b)))] := by
  refine Sound.of X Try.call68 Try.func68 rfl rfl (by decide) Try.ntmps68 (by simp) ?_
  intro w0
  refine W.seq (W.reg X [] [] [1, 0] [] rfl ⟨⟩ ?_)
  refine W.seq (W.seq (W.reg X [] [] [10, 1, 0] [] rfl ⟨⟩ ?_))
  refine W.cond rfl (fun hb => ?_) (fun hb => W.skip ?_)
  · refine W.seq (W.reg X [] [] [4] [] rfl ⟨⟩ ?_)
    refine W.ret ?_
    exact Fin.ret rfl ⟨by rw [ne_of_len a b (of_bne hb)], ⟨⟩⟩
  have hl : a.length = b.length := by have := of_bne_false hb; omega
  refine W.bound 0 rfl (fun hm => ?_)
  refine W.seq (W.seq (W.reg X [] [] [5, 1, 0] [] rfl ⟨⟩ ?_))
  refine W.block ?_
  refine W.loop (fun k => k ≤ a.length ∧ a.take k = b.take k) (fun k : Nat => ⟨27, [(5, .one (.a (.lit (.int .i64 k)))), (1, .one (.a (.sl (.sl .u8) b))), (0, .one (.a (.sl (.sl .u8) a)))], []⟩) (fun k => a.length - k) 0 ⟨Nat.zero_le _, rfl⟩ (Inv.of_eq rfl) ?_
  rintro k ⟨hk, ht⟩
  refine W.seq (W.seq (W.reg X [] [] [14, 5, 1, 0] [] rfl ⟨⟩ ?_))
  refine W.cond rfl (fun hb => W.skip ?_) (fun hb => W.exit ?_)
  · have hk2 : k < a.length := by simpa using hb
    refine W.seq (W.block (W.seq (W.draw X [] [(25, ⟨false, [.a (.lit (.bool (a.getD k [] == b.getD k [])))]⟩)] [26, 5, 1, 0] [] 10 MO (by kernel_rfl) rfl ⟨c_spec_EqualBytes _ _, by omega, by omega, ⟨⟩⟩ ?_)))
    refine W.cond rfl (fun hb2 => ?_) (fun hb2 => W.skip ?_)
    · refine W.seq (W.reg X [] [] [4] [] rfl ⟨⟩ ?_)
      refine W.ret ?_
      exact Fin.ret rfl ⟨by rw [ne_of_getD a b [] k (by simpa using hb2)], ⟨⟩⟩
    · refine W.reg X [] [] [5, 1, 0] [] rfl ⟨⟩ ?_
      refine ⟨k + 1, ⟨hk2, take_eq_step a b [] k hk2 (by omega) ht (by simpa using hb2)⟩, by omega, Inv.of_eq ?_⟩
      rw [wadd _ k rfl (by omega)]
      try rfl
  · have hk2 : k = a.length := by have : ¬ k < a.length := by simpa using hb
                                  omega
    refine W.seq (W.reg X [] [] [4] [] rfl ⟨⟩ ?_)
    refine W.ret ?_
    exact Fin.ret rfl ⟨by rw [eq_of_take a b k hk2 hl ht], ⟨⟩⟩
theorem c_slices_EqualFunc (a b : List (List UInt8)) : Sound ty Try.prog 139 [.a (.sl (.sl .u8) a), .a (.sl (.sl .u8) b), .a (.lit (.func (.func 91) #[] #[]))] [.a (.lit (.bool (a == b)))] := by
  refine Sound.of X Try.call139 Try.func139 rfl rfl (by decide) Try.ntmps139 (by simp) ?_
  intro w0
  refine W.seq (W.reg X [] [] [2, 1, 0] [] rfl ⟨⟩ ?_)
  refine W.seq (W.seq (W.reg X [] [] [14, 2, 1, 0] [] rfl ⟨⟩ ?_))
  refine W.cond rfl (fun hb => ?_) (fun hb => W.skip ?_)
  · refine W.seq (W.reg X [] [] [6] [] rfl ⟨⟩ ?_)
    refine W.ret ?_
    exact Fin.ret rfl ⟨by rw [ne_of_len a b (of_bne hb)], ⟨⟩⟩
  have hl : a.length = b.length := by have := of_bne_false hb; omega
  refine W.bound 0 rfl (fun hm => ?_)
  refine W.seq (W.seq (W.reg X [] [] [17, 16, 15, 2, 1] [] rfl ⟨⟩ ?_))
  refine W.block ?_
  refine W.loop (fun k => k ≤ a.length ∧ a.take k = b.take k) (fun k : Nat => ⟨32, [(17, .one (.a (.lit (.int .i64 k)))), (16, .one (.a (.lit (.int .i64 a.length)))), (15, .one (.a (.sl (.sl .u8) a))), (2, .one (.a (.lit (.func (.func 91) #[] #[])))), (1, .one (.a (.sl (.sl .u8) b)))], []⟩) (fun k => a.length - k) 0 ⟨Nat.zero_le _, rfl⟩ (Inv.of_eq rfl) ?_
  rintro k ⟨hk, ht⟩
  refine W.seq (W.reg X [] [] [18, 17, 16, 15, 2, 1] [] rfl ⟨⟩ ?_)
  refine W.seq (W.cond rfl (fun hb => W.skip ?_) (fun hb => W.exit ?_))
  · have hk2 : k < a.length := by simpa using hb
    refine W.seq (W.block (W.seq (W.reg X [] [] [7, 8, 17, 16, 15, 2, 1] [] rfl ⟨by omega, ⟨⟩⟩ ?_)))
    refine W.seq (W.reg X [] [] [9, 8, 17, 16, 15, 2, 1] [] rfl ⟨by omega, ⟨⟩⟩ ?_)
    refine W.seq (W.reg X [] [(29, ⟨false, [.a (.lit (.bool (a.getD k [] == b.getD k [])))]⟩)] [30, 17, 16, 15, 2, 1] [] rfl ⟨c_impl_EqualBytes _ _, ⟨⟩⟩ ?_)
    refine W.cond rfl (fun hb2 => ?_) (fun hb2 => W.skip ?_)
    · refine W.seq (W.reg X [] [] [6] [] rfl ⟨⟩ ?_)
      refine W.ret ?_
      exact Fin.ret rfl ⟨by rw [ne_of_getD a b [] k (by simpa using hb2)], ⟨⟩⟩
    · refine W.reg X [] [] [17, 16, 15, 2, 1] [] rfl ⟨⟩ ?_
      refine ⟨k + 1, ⟨hk2, take_eq_step a b [] k hk2 (by omega) ht (by simpa using hb2)⟩, by omega, Inv.of_eq ?_⟩
      rw [wadd _ k rfl (by omega)]
      try rfl
  · have hk2 : k = a.length := by have : ¬ k < a.length := by simpa using hb
                                  omega
    refine W.seq (W.reg X [] [] [6] [] rfl ⟨⟩ ?_)
    refine W.ret ?_
    exact Fin.ret rfl ⟨by rw [eq_of_take a b k hk2 hl ht], ⟨⟩⟩
theorem c_impl_EqualLists (a b : List (List UInt8)) : Sound ty Try.prog 102 [.a (.sl (.sl .u8) a), .a (.sl (.sl .u8) b)] [.a (.lit (.bool (a == b)))] := by
  refine Sound.of X Try.call102 Try.func102 rfl rfl (by decide) Try.ntmps102 (by simp) ?_
  intro w0
  refine W.seq (W.reg X [] [] [1, 0] [] rfl ⟨⟩ ?_)
  refine W.seq (W.reg X [] [(7, ⟨false, [.a (.lit (.bool (a == b)))]⟩)] [4] [] rfl ⟨c_slices_EqualFunc a b, ⟨⟩⟩ ?_)
  refine W.ret ?_
  exact Fin.ret rfl ⟨rfl, ⟨⟩⟩
theorem c_impl_isPrefix (a b : List (List UInt8)) : Sound ty Try.prog 69 [.a (.sl (.sl .u8) a), .a (.sl (.sl .u8) b)] [.a (.lit (.bool (isPre a b)))] := by
  refine Sound.of X Try.call69 Try.func69 rfl rfl (by decide) Try.ntmps69 (by simp) ?_
  intro w0
  refine W.seq (W.reg X [] [] [1, 0] [] rfl ⟨⟩ ?_)
  refine W.seq (W.reg X [] [(16, ⟨false, [.a (.lit (.bool (a == (b.take (a.length : Int).toNat).drop (0 : Int).toNat)))]⟩)] [4] [] rfl ⟨fun _ => c_impl_EqualLists _ _, ?_, ⟨⟩⟩ ?_)
  · intro h1; replace h1 := of_decide_eq_true h1; refine ⟨?_, ?_, ?_⟩ <;> omega
  refine W.ret ?_
  exact Fin.ret rfl ⟨rfl, ⟨⟩⟩
theorem c_spec_InboxIsPrefix (x : Wld) (c : Int) (hd : x.devices.length ≤ 1048576) : Sound ty Try.prog 30 [.agg (dec_Wld x), .a (.lit (.int .i64 c))] [.a (.lit (.bool (prefixed x c)))] := by
  refine Sound.of X Try.call30 Try.func30 rfl rfl (by decide) Try.ntmps30 (by simp) ?_
  intro w0
  refine W.seq (W.reg X [(2, 2)] [] [2, 1] [2] rfl ⟨⟩ ?_)
  refine W.seq (W.seq (W.reg X [] [(9, ⟨false, [.a (.lit (.bool (pairOK x c)))]⟩)] [10, 2, 1] [2] rfl ⟨c_spec_l37Pair x c, ⟨⟩⟩ ?_))
  refine W.cond rfl (fun hb => ?_) (fun hb => W.skip ?_)
  · refine W.seq (W.reg X [] [] [4] [] rfl ⟨⟩ ?_)
    refine W.ret ?_
    have hp : pairOK x c = false := by simpa using hb
    exact Fin.ret rfl ⟨by rw [prefixed, hp]; rfl, ⟨⟩⟩
  have hp : pairOK x c = true := by simpa using hb
  obtain ⟨h1, h2⟩ := (pairOK_iff hd).1 hp
  refine W.seq (W.reg X [] [] [5, 2, 1] [2] rfl ⟨h1, ⟨⟩⟩ ?_)
  refine W.seq (W.reg X [] [] [6, 5] [] rfl ⟨h2, ⟨⟩⟩ ?_)
  refine W.seq (W.reg X [] [(37, ⟨false, [.a (.lit (.bool ((x.devices.getD c.toNat (dfl .Dev)).live.inbox == ((x.devices.getD (xor1 c).toNat (dfl .Dev)).live.submitted.take ((x.devices.getD c.toNat (dfl .Dev)).live.inbox.length : Int).toNat).drop (0 : Int).toNat)))]⟩)] [4] [] rfl ⟨fun _ => c_spec_EqualLists _ _, ?_, ⟨⟩⟩ ?_)
  · intro h1; replace h1 := of_decide_eq_true h1; refine ⟨?_, ?_, ?_⟩ <;> omega
  refine W.ret ?_
  exact Fin.ret rfl ⟨by rw [prefixed, hp]; rfl, ⟨⟩⟩
theorem c_impl_InboxIsPrefix (x : Wld) (c : Int) (hd : x.devices.length ≤ 1048576) : Sound ty Try.prog 31 [.agg (dec_Wld x), .a (.lit (.int .i64 c))] [.a (.lit (.bool (prefixed x c)))] := by
  refine Sound.of X Try.call31 Try.func31 rfl rfl (by decide) Try.ntmps31 (by simp) ?_
  intro w0
  refine W.seq (W.reg X [(2, 2)] [] [2, 1] [2] rfl ⟨⟩ ?_)
  refine W.seq (W.draw X [] [(7, ⟨false, [.a (.lit (.bool (pairOK x c)))]⟩), (24, ⟨false, [.a (.lit (.bool (isPre (x.devices.getD c.toNat (dfl .Dev)).live.inbox (x.devices.getD (xor1 c).toNat (dfl .Dev)).live.submitted)))]⟩)] [4] [] 22 MO (by kernel_rfl) rfl ⟨fun _ => c_impl_isPrefix _ _, fun hp => ((pairOK_iff hd).1 hp).2, fun hp => ((pairOK_iff hd).1 hp).1, c_impl_hasPair x c hd, ⟨⟩⟩ ?_)
  refine W.ret ?_
  exact Fin.ret rfl ⟨rfl, ⟨⟩⟩
end Go.Proofs.Ytfiaikmlnemnfaa.G
