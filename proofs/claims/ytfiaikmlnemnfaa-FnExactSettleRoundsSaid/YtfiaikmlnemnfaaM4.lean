/-
  Contracts: messages submitted and not yet read.
-/
import Derived.Test.YtfiaikmlnemnfaaM3
namespace Go.Proofs.Ytfiaikmlnemnfaa.C
open Go.RowKit L D

theorem xor_one {k : Nat} (h : k < 2 ^ 63) : bits .xor .i64 (k : Int) 1 = ((k ^^^ 1 : Nat) : Int) := by
  have e1 : k ^^^ 1 < 2 ^ 63 := Nat.xor_lt_two_pow h (by decide)
  have e2 : (BitVec.ofInt 64 (k : Int)).toNat = k := by rw [BitVec.toNat_ofInt]; omega
  show IntKind.i64.wrap ((BitVec.ofInt 64 (k : Int) ^^^ BitVec.ofInt 64 1).toNat : Int) = _
  rw [BitVec.toNat_xor, e2, show (BitVec.ofInt 64 1).toNat = 1 from rfl, IntKind.wrap_i64]
  omega
def unreadAt (l : List Dev) (k : Nat) (t : Int) : Int :=
  match l[k]?, l[k ^^^ 1]? with
  | some d, some e => wrap64 (wrap64 (t + (d.live.submitted.length : Int)) - (e.live.inbox.length : Int))
  | _, _ => t
def unread (l : List Dev) : Nat → Int
  | 0 => 0
  | k + 1 => unreadAt l k (unread l k)
theorem unread_both {l : List Dev} {k : Nat} {d e : Dev} (h : l[k]? = some d) (h1 : l[k ^^^ 1]? = some e) : unread l (k + 1) = wrap64 (wrap64 (unread l k + (d.live.submitted.length : Int)) - (e.live.inbox.length : Int)) := by
  simp only [unread, unreadAt, h, h1]
theorem unread_one {l : List Dev} {k : Nat} (h1 : l.length ≤ k ^^^ 1) : unread l (k + 1) = unread l k := by
  simp only [unread, unreadAt, List.getElem?_eq_none h1]; split <;> simp_all

set_option maxHeartbeats 400000 in
set_option maxRecDepth 100000 in
theorem spec_UnreadMessages (w : World) (cs : List Value) (x : Wld) (fp : List Nat) (h : EWld w cs x fp) (_hs : size_Wld x ≤ 1048576) (_hw : wf_Wld x) :
    Calls Try.prog 22 #[.agg cs.toArray] w (Gives w (.int .i64 (unread x.devices x.devices.length))) := by
  obtain ⟨v1, v2, cA, v3, f1, f2, f3, f4, rfl, _, h2, ⟨v4, f5, rfl, _, rfl⟩, _, rfl⟩ := h
  have HX := Lib.hid h2
  obtain ⟨oa, cap, rfl, hc, hm, _⟩ := h2
  generalize hl : x.devices = l at *
  obtain ⟨n, hn⟩ : ∃ n, n = l.length := ⟨_, rfl⟩
  rw [← hn] at hc HX ⊢
  have HL := Lib.hid hn; clear hn hl
  unfold maxLen at hm
  go_enter Try.func22, Try.ntmps22
  go_wp2_with fail
  have k0 : (w.alloc (.cells #[.int .i64 x.rows, v1, .slice oa n cap, .int .i64 x.archive.rows, v4, .int .i64 x.master, .int .i64 x.seed, .int .i64 x.round, v3, .int .i64 x.cancelled] 38)).heap[w.heap.size]? = some (.cells #[.int .i64 x.rows, v1, .slice oa n cap, .int .i64 x.archive.rows, v4, .int .i64 x.master, .int .i64 x.seed, .int .i64 x.round, v3, .int .i64 x.cancelled] 38 (0, 0)) := alloc_top rfl
  have K := Lib.hid k0; clear k0
  go_loopw [3, 4] (fun t i wr => ∃ k : Nat, k ≤ n ∧ i = .int .i64 k ∧ t = .int .i64 (unread l k) ∧ Below w.heap.size w wr ∧ wr.heap[w.heap.size]? = some (.cells #[.int .i64 x.rows, v1, .slice oa n cap, .int .i64 x.archive.rows, v4, .int .i64 x.master, .int .i64 x.seed, .int .i64 x.round, v3, .int .i64 x.cancelled] 38 (0, 0))) (fun _ i _ => n - (intOf i).toNat)
  case atStart => exact ⟨0, by omega, rfl, rfl, (Below.refl _ _).alloc (Nat.le_refl _) _, K.out⟩
  case round =>
    obtain ⟨k, hk, rfl, rfl, hb, k0⟩ := hrel
    have c0 := cellB k0
    have K1 := Lib.hid k0; clear k0
    by_cases hk2 : k < n
    · have hxor := xor_one (k := k) (by omega)
      obtain ⟨m, hm2⟩ : ∃ m, m = k ^^^ 1 := ⟨_, rfl⟩
      rw [← hm2] at hxor
      have HM := Lib.hid hm2; clear hm2
      by_cases hk3 : m < n
      · obtain ⟨d, hd⟩ := getE (l := l) (k := k) (by have := HL.out; omega)
        obtain ⟨e, he⟩ := getE (l := l) (k := m) (by have := HL.out; omega)
        have HY := Sl.agree good_Dev HX.out (agree_below hb (Sl.lt good_Dev HX.out))
        obtain ⟨b, off, f, cs, rfl, hr, hE, _⟩ := HY.at hd
        obtain ⟨b', off', f', cs', hq, hr', hE', _⟩ := HY.at he
        cases hq
        clear HY
        obtain ⟨cl, cv, fl, fv, rfl, ⟨u1, u2, g1, g2, rfl, ⟨o1, c1, rfl, _⟩, hu2, rfl⟩, hcv, _⟩ := hE
        obtain ⟨cl', cv', fl', fv', rfl, ⟨u3, u4, g3, g4, rfl, hu3, ⟨o4, c4, rfl, _⟩, rfl⟩, hcv', _⟩ := hE'
        have HP := Lib.hid (unread_both hd (by rw [← HM.out]; exact he))
        have c4 := hr 4 _ rfl
        have c6 := hr' 6 _ rfl
        clear hr hr' hd he hu2 hu3 hcv hcv'
        go_wp2_with fail
        have ik : (k : Int) < (n : Int) := by omega
        have im : (m : Int) < (n : Int) := by omega
        have ik0 : (0 : Int) ≤ (k : Int) := by omega
        have im0 : (0 : Int) ≤ (m : Int) := by omega
        go_quiet (fail)
        clear ik im ik0 im0
        go_wp2_with fail
        go_roundw
        case rel => exact ⟨k + 1, by omega, by go_num, by rw [HP.out], below_drewN hb _, K1.out⟩
        case measure => simp [intOf]; omega
      · have HP := Lib.hid (unread_one (l := l) (k := k) (by rw [← HM.out, ← HL.out]; omega))
        go_wp2_with fail
        go_roundw
        case rel => exact ⟨k + 1, by omega, by go_num, by rw [HP.out], hb, K1.out⟩
        case measure => simp [intOf]; omega
    · obtain rfl : k = n := by omega
      have H := HL.out
      go_wp2
      go_ret
      exact ⟨rfl, hb⟩

theorem impl_InRange (w : World) (n lo hi : Int) : Calls Try.prog 103 #[.int .i64 n, .int .i64 lo, .int .i64 hi] w (Gives w (.bool (decide (lo ≤ n) && decide (n ≤ hi)))) := by
  go_enter Try.func103, Try.ntmps103
  by_cases h : lo ≤ n
  · go_wp2
    go_ret
    exact ⟨ret_bool (by simp [h]), Below.refl _ _⟩
  · have hd : decide (lo ≤ n) = false := by simpa using h
    go_wp2
    go_ret
    exact ⟨ret_bool (by simp), Below.refl _ _⟩

theorem impl_hasClient (w : World) (c0 c1 c3 c4 c5 c6 c7 c8 c9 : Value) (oa : Option Addr) (n cap : Nat) (hn : n < 2 ^ 63) (k : Nat) :
    Calls Try.prog 71 #[.agg #[c0, c1, .slice oa n cap, c3, c4, c5, c6, c7, c8, c9], .int .i64 (k : Int)] w (Gives w (.bool (decide (k < n)))) := by
  go_enter Try.func71, Try.ntmps71
  go_wp2_with fail
  refine (impl_InRange _ _ _ _).mono ?_
  rintro e w2 ⟨rfl, hb2⟩
  go_wp2_with fail
  go_ret
  refine ⟨ret_bool ?_, ((Below.refl w.heap.size w).alloc (Nat.le_refl _) _).trans (hb2.mono (by simp))⟩
  by_cases h : k < n <;> simp <;> omega

theorem impl_hasPair (w : World) (c0 c1 c3 c4 c5 c6 c7 c8 c9 : Value) (oa : Option Addr) (n cap : Nat) (hn : n < 2 ^ 63) (k : Nat) (hk : k < 2 ^ 63) :
    Calls Try.prog 62 #[.agg #[c0, c1, .slice oa n cap, c3, c4, c5, c6, c7, c8, c9], .int .i64 (k : Int)] w (Gives w (.bool (decide (k < n) && decide (k ^^^ 1 < n)))) := by
  have hxor := xor_one hk
  generalize k ^^^ 1 = m at *
  go_enter Try.func62, Try.ntmps62
  go_wp2_with fail
  refine (impl_hasClient _ _ _ _ _ _ _ _ _ _ _ _ _ hn _).mono ?_
  rintro e w2 ⟨rfl, hb2⟩
  have k0 := blk hb2 (alloc_top rfl)
  have c0 := cellB k0
  have K1 := Lib.hid k0; clear k0
  have hB := ((Below.refl w.heap.size w).alloc (Nat.le_refl _) _).trans (hb2.mono (by simp))
  by_cases h : k < n
  · have hd : decide (k < n) = true := by simpa using h
    rw [hd]
    go_wp2_with fail
    refine (impl_hasClient _ _ _ _ _ _ _ _ _ _ _ _ _ hn _).mono ?_
    rintro e w3 ⟨rfl, hb3⟩
    have hC := hB.trans (hb3.mono hB.size)
    go_wp2
    go_ret
    exact ⟨ret_bool (by rw [hd, Bool.true_and]), hC⟩
  · have hd : decide (k < n) = false := by simpa using h
    rw [hd]
    go_wp2
    go_ret
    exact ⟨ret_bool (by rw [hd, Bool.false_and]), hB⟩

theorem wrap_sub (a b c : Int) : wrap64 (a + wrap64 (b - c)) = wrap64 (wrap64 (a + b) - c) := by unfold wrap64; omega

set_option maxHeartbeats 400000 in
set_option maxRecDepth 100000 in
theorem impl_UnreadMessages (w : World) (cs : List Value) (x : Wld) (fp : List Nat) (h : EWld w cs x fp) (_hs : size_Wld x ≤ 1048576) (_hw : wf_Wld x) :
    Calls Try.prog 23 #[.agg cs.toArray] w (Gives w (.int .i64 (unread x.devices x.devices.length))) := by
  obtain ⟨v1, v2, cA, v3, f1, f2, f3, f4, rfl, _, h2, ⟨v4, f5, rfl, _, rfl⟩, _, rfl⟩ := h
  have HX := Lib.hid h2
  obtain ⟨oa, cap, rfl, hc, hm, _⟩ := h2
  generalize hl : x.devices = l at *
  obtain ⟨n, hn⟩ : ∃ n, n = l.length := ⟨_, rfl⟩
  rw [← hn] at hc HX ⊢
  have HL := Lib.hid hn; clear hn hl
  unfold maxLen at hm
  have hn63 : n < 2 ^ 63 := by omega
  go_enter Try.func23, Try.ntmps23
  go_wp2_with fail
  have k0 : (w.alloc (.cells #[.int .i64 x.rows, v1, .slice oa n cap, .int .i64 x.archive.rows, v4, .int .i64 x.master, .int .i64 x.seed, .int .i64 x.round, v3, .int .i64 x.cancelled] 38)).heap[w.heap.size]? = some (.cells #[.int .i64 x.rows, v1, .slice oa n cap, .int .i64 x.archive.rows, v4, .int .i64 x.master, .int .i64 x.seed, .int .i64 x.round, v3, .int .i64 x.cancelled] 38 (0, 0)) := alloc_top rfl
  have K := Lib.hid k0; clear k0
  go_loopw [3, 9] (fun t i wr => ∃ k : Nat, k ≤ n ∧ i = .int .i64 k ∧ t = .int .i64 (unread l k) ∧ Below w.heap.size w wr ∧ wr.heap[w.heap.size]? = some (.cells #[.int .i64 x.rows, v1, .slice oa n cap, .int .i64 x.archive.rows, v4, .int .i64 x.master, .int .i64 x.seed, .int .i64 x.round, v3, .int .i64 x.cancelled] 38 (0, 0))) (fun _ i _ => n - (intOf i).toNat)
  case atStart => exact ⟨0, by omega, rfl, rfl, (Below.refl _ _).alloc (Nat.le_refl _) _, K.out⟩
  case round =>
    obtain ⟨k, hk, rfl, rfl, hb, k0⟩ := hrel
    have K1 := Lib.hid k0; clear k0
    by_cases hk2 : k < n
    · obtain ⟨d, hd⟩ := getE (l := l) (k := k) (by have := HL.out; omega)
      obtain ⟨b, off, f, cs, rfl, hr, hE, _⟩ := (Sl.agree good_Dev HX.out (agree_below hb (Sl.lt good_Dev HX.out))).at hd
      obtain ⟨cl, cv, fl, fv, rfl, ⟨u1, u2, g1, g2, rfl, ⟨o1, c1, rfl, _⟩, hu2, rfl⟩, ⟨u3, u4, g3, g4, rfl, hu3, hu4, rfl⟩, _⟩ := hE
      obtain ⟨o2, n2, c2, rfl⟩ := Sl.form hu2
      obtain ⟨o3, n3, c3, rfl⟩ := Sl.form hu3
      obtain ⟨o4, n4, c4, rfl⟩ := Sl.form hu4
      have HR : Hid (wr.rangeAt b (off + k * 16) _) := Lib.hid hr
      have HD := Lib.hid hd
      clear hr hd hu2 hu3 hu4
      have k1 := alloc_old (o := .cells #[.int .i64 d.live.id, .int .i64 d.live.friend, .int .i64 d.live.key, .int .i64 d.live.seed, .slice o1 d.live.submitted.length c1, .int .i64 d.live.sent, .slice o2 n2 c2, .int .i64 d.live.next, .int .i64 d.saved.id, .int .i64 d.saved.friend, .int .i64 d.saved.key, .int .i64 d.saved.seed, .slice o3 n3 c3, .int .i64 d.saved.sent, .slice o4 n4 c4, .int .i64 d.saved.next] 68) K1.out
      have c0 := cellB k1
      have K2 := Lib.hid k1; clear k1
      go_wp2_with ((with_reducible refine wpList_ld (op := ⟨some 13, _, _, _, _, _⟩) row_Dev_impl HR.out rfl rfl rfl ?_ ?_); exact rfl)
      refine (impl_hasPair _ _ _ _ _ _ _ _ _ _ _ _ _ hn63 k (by omega)).mono ?_
      rintro e w2 ⟨rfl, hb2⟩
      have k3 := blk hb2 K2.out
      have k4 := blk hb2 (alloc_top rfl)
      have hB := (hb.alloc hb.size _).trans (hb2.mono (by have := hb.size; simp; omega))
      clear c0
      have c0 := cellB k3
      have c9 := cellB k4
      have K3 := Lib.hid k3; have K4 := Lib.hid k4; clear k3 k4 hb2
      have hkn : decide (k < n) = true := by simpa using hk2
      have hxor := xor_one (k := k) (by omega)
      rw [hkn, Bool.true_and]
      obtain ⟨m, hm2⟩ : ∃ m, m = k ^^^ 1 := ⟨_, rfl⟩
      rw [← hm2] at hxor ⊢
      have HM := Lib.hid hm2; clear hm2
      by_cases hk3 : m < n
      · have hmn : decide (m < n) = true := by simpa using hk3
        rw [hmn]
        obtain ⟨e, he⟩ := getE (l := l) (k := m) (by have := HL.out; omega)
        obtain ⟨b', off', f', cs', hq, hr', hE', _⟩ := (Sl.agree good_Dev HX.out (agree_below hB (Sl.lt good_Dev HX.out))).at he
        cases hq
        obtain ⟨cl', cv', fl', fv', rfl, ⟨u3, u4, g3, g4, rfl, hu3, ⟨o5, c5, rfl, _⟩, rfl⟩, hcv', _⟩ := hE'
        have HP := Lib.hid (unread_both HD.out (by rw [← HM.out]; exact he))
        have c6 := hr' 6 _ rfl
        clear hr' he hu3 hcv'
        go_wp2_with fail
        have im : (m : Int) < (n : Int) := by omega
        have im0 : (0 : Int) ≤ (m : Int) := by omega
        go_quiet (fail)
        clear im im0
        go_wp2_with fail
        go_roundw
        case rel => exact ⟨k + 1, by omega, by go_num, by rw [HP.out, wrap_sub], below_drewN hB _, K3.out⟩
        case measure => simp [intOf]; omega
      · have hmn : decide (m < n) = false := by simpa using hk3
        rw [hmn]
        have HP := Lib.hid (unread_one (l := l) (k := k) (by rw [← HM.out, ← HL.out]; omega))
        go_wp2_with fail
        go_roundw
        case rel => exact ⟨k + 1, by omega, by go_num, by rw [HP.out], hB, K3.out⟩
        case measure => simp [intOf]; omega
    · obtain rfl : k = n := by omega
      go_wp2
      go_ret
      exact ⟨rfl, hb⟩

end Go.Proofs.Ytfiaikmlnemnfaa.C
