/-
  Contracts of the laws own functions: sizes.
-/
import Derived.Test.YthlflnplnajjiaaC0
namespace Go.Proofs.Ythlflnplnajjiaa.C
open Go.RowKit L D

theorem szByteS (w : World) (v : Value) (l : (List UInt8)) (fp : List Nat) (h : Sl 1 EU8 w v l fp) (left : Int) (h1 : 0 ≤ left) (h2 : left ≤ 1048576) :
    Calls Try.prog 44 #[v, .int .i64 left] w (Gives w (.int .i64 (szN left l.length))) := by
  obtain ⟨oa, cap, rfl, hc, hm, _⟩ := h
  have hn := Nat.le_trans hc hm
  generalize l.length = n at *
  unfold maxLen at hn
  clear hc hm
  by_cases h : left - n < 0
  · have H := Lib.hid (szN_neg h)
    go_enter Try.func44, Try.ntmps44
    go_wp2
    go_ret
    exact ⟨ret_int H.out, Below.refl _ _⟩
  · have H := Lib.hid (szN_pos h)
    go_enter Try.func44, Try.ntmps44
    go_wp2
    go_ret
    exact ⟨ret_int H.out, Below.refl _ _⟩


set_option maxHeartbeats 400000 in
set_option maxRecDepth 100000 in
theorem szEvent (w : World) (cs : List Value) (x : Ev) (fp : List Nat) (hx : EEv w cs x fp) (left : Int) (h1 : 0 ≤ left) (h2 : left ≤ 1048576) :
    Calls Try.prog 36 #[.agg cs.toArray, .int .i64 left] w (Gives w (.int .i64 (szN left (size_Ev x)))) := by
  obtain ⟨v_body, f_body, rfl, h_body, rfl⟩ := hx
  have H_body := Lib.hid h_body
  clear h_body
  go_enter Try.func36, Try.ntmps36
  go_wp2_with fail
  by_cases q0 : left - (List.length x.body : Nat) < 0
  · have s0 := Lib.hid (szN_neg q0)
    have Q0 := Lib.hid q0
    refine (szByteS _ _ _ _ (Sl.agree good_u8 H_body.out (agree_below (B := w.heap.size) ((Below.refl _ _).alloc (Nat.le_refl _) _) (Sl.lt good_u8 H_body.out))) _ (by omega) (by omega)).mono ?_
    rintro e w1 ⟨rfl, hb⟩
    rw [s0.out]
    have hB1 : Below w.heap.size w w1 := ((Below.refl _ _).alloc (Nat.le_refl _) _).trans (hb.mono (by simp))
    have k1 := blk hb (alloc_top (k := w.heap.size) rfl)
    have c1 := cellB k1; have K1 := Lib.hid k1; clear k1 hb
    clear q0
    go_wp2
    go_ret
    exact ⟨ret_int (szN_neg (by have := Q0.out; unfold size_Ev; omega)), hB1⟩
  · have s0 := Lib.hid (szN_pos q0)
    have q0' : 0 ≤ left - (List.length x.body : Nat) := by omega
    refine (szByteS _ _ _ _ (Sl.agree good_u8 H_body.out (agree_below (B := w.heap.size) ((Below.refl _ _).alloc (Nat.le_refl _) _) (Sl.lt good_u8 H_body.out))) _ (by omega) (by omega)).mono ?_
    rintro e w1 ⟨rfl, hb⟩
    rw [s0.out]
    have hB1 : Below w.heap.size w w1 := ((Below.refl _ _).alloc (Nat.le_refl _) _).trans (hb.mono (by simp))
    have k1 := blk hb (alloc_top (k := w.heap.size) rfl)
    have c1 := cellB k1; have K1 := Lib.hid k1; clear k1 hb
    clear q0
    go_wp2
    go_ret
    exact ⟨ret_int (by unfold size_Ev; rw [szN_pos] <;> omega), hB1⟩


set_option maxHeartbeats 400000 in
set_option maxRecDepth 100000 in
theorem szEventS (w : World) (v : Value) (l : (List Ev)) (fp : List Nat) (h : Sl 4 EEv w v l fp) (left : Int) (h1 : 0 ≤ left) (h2 : left ≤ 1048576) :
    Calls Try.prog 21 #[v, .int .i64 left] w (Gives w (.int .i64 (szN left (lsz size_Ev l)))) := by
  have HX := Lib.hid h
  obtain ⟨oa, cap, rfl, hc, hm, _⟩ := h
  obtain ⟨n, hl⟩ : ∃ n, n = l.length := ⟨_, rfl⟩
  rw [← hl] at hc ⊢ HX
  unfold maxLen at hm
  by_cases hq : left - n < 0
  · have H := Lib.hid (szN_neg (left := left) (n := lsz size_Ev l) (by unfold lsz; omega))
    clear hl
    go_enter Try.func21, Try.ntmps21
    go_wp2_with fail
    go_ret
    exact ⟨ret_int H.out, Below.refl _ _⟩
  · have HL := Lib.hid hl; clear hl
    have hq' : 0 ≤ left - (n : Int) := by omega
    clear hq
    go_enter Try.func21, Try.ntmps21
    go_wp2_with fail
    go_loopw [5, 1] (fun i t wr => ∃ k : Nat, k ≤ n ∧ i = .int .i64 k ∧ ∃ s : Nat, Hid (s = n + ((l.take k).map size_Ev).sum) ∧ (s : Int) ≤ left ∧ t = .int .i64 (left - s) ∧ Below w.heap.size w wr) (fun i _ _ => n - (intOf i).toNat)
    case atStart => exact ⟨0, by omega, rfl, n, by show _ = _; simp, by omega, rfl, Below.refl _ _⟩
    case round =>
      obtain ⟨k, hk, rfl, s, HS, hs, rfl, hb⟩ := hrel
      by_cases hk2 : k < n
      · obtain ⟨x, hx⟩ := getE (l := l) (k := k) (by have := HL.out; omega)
        obtain ⟨b, off, f, cs, rfl, hr, hE, _⟩ := (Sl.below good_Ev HX.out hb).at hx
        have HY := Lib.hid hx
        clear hx
        have HR := Lib.hid hr
        have hcs := Lib.hid (good_Ev.len hE)
        have HE := Lib.hid hE
        clear hE hr
        by_cases hq : left - s - (size_Ev x : Nat) < 0
        · have H1 := Lib.hid (szN_neg hq)
          have H := Lib.hid (szN_neg (left := left) (n := lsz size_Ev l) (by have h1 := take_sum l size_Ev k x HY.out; have h2 := take_sum_le l size_Ev (k + 1); have := HS.out; have := HL.out; unfold lsz; omega))
          clear hq
          go_wp2_with ((with_reducible refine wpList_ld (op := ⟨some 21, _, _, _, _, _⟩) row_Ev_laws HR.out hcs.out rfl rfl ?_ ?_); exact rfl)
          refine (szEvent _ _ _ _ HE.out _ (by omega) (by omega)).mono ?_
          rintro e w1 ⟨rfl, hb1⟩
          rw [H1.out]
          go_wp2
          go_ret
          exact ⟨ret_int H.out, hb.trans (hb1.mono hb.size)⟩
        · have H1 := Lib.hid (show szN (left - s) (size_Ev x) = left - ((s + size_Ev x : Nat) : Int) by rw [szN_pos hq]; omega)
          have hq2 : 0 ≤ left - ((s + size_Ev x : Nat) : Int) := by omega
          clear hq
          go_wp2_with ((with_reducible refine wpList_ld (op := ⟨some 21, _, _, _, _, _⟩) row_Ev_laws HR.out hcs.out rfl rfl ?_ ?_); exact rfl)
          refine (szEvent _ _ _ _ HE.out _ (by omega) (by omega)).mono ?_
          rintro e w1 ⟨rfl, hb1⟩
          rw [H1.out]
          go_wp2
          go_roundw
          case rel => exact ⟨k + 1, by omega, by go_num, s + size_Ev x, by show _ = _; have h1 := take_sum l size_Ev k x HY.out; rw [h1]; have := HS.out; omega, by omega, rfl, hb.trans (hb1.mono hb.size)⟩
          case measure => simp [intOf]; omega
      · have hkn : k = n := by omega
        have H := Lib.hid (show szN left (lsz size_Ev l) = left - s by
          have := HS.out; have := HL.out; rw [szN_pos] <;> rw [hkn, HL.out, List.take_length] at * <;> unfold lsz <;> omega)
        clear hkn
        go_wp2
        go_ret
        exact ⟨ret_int H.out, hb⟩

end Go.Proofs.Ythlflnplnajjiaa.C
