/-
  Contracts of the laws own functions: sizes.
-/
import Derived.Test.YtfiaikmlnemnfaaC0
namespace Go.Proofs.Ytfiaikmlnemnfaa.C
open Go.RowKit L D

theorem szByteS (w : World) (v : Value) (l : (List UInt8)) (fp : List Nat) (h : Sl 1 EU8 w v l fp) (left : Int) (h1 : 0 ≤ left) (h2 : left ≤ 1048576) :
    Calls Try.prog 181 #[v, .int .i64 left] w (Gives w (.int .i64 (szN left l.length))) := by
  obtain ⟨oa, cap, rfl, hc, hm, _⟩ := h
  have hn := Nat.le_trans hc hm
  generalize l.length = n at *
  unfold maxLen at hn
  clear hc hm
  by_cases h : left - n < 0
  · have H := Lib.hid (szN_neg h)
    go_enter Try.func181, Try.ntmps181
    go_wp2
    go_ret
    exact ⟨ret_int H.out, Below.refl _ _⟩
  · have H := Lib.hid (szN_pos h)
    go_enter Try.func181, Try.ntmps181
    go_wp2
    go_ret
    exact ⟨ret_int H.out, Below.refl _ _⟩


theorem szIntS (w : World) (v : Value) (l : (List Int)) (fp : List Nat) (h : Sl 1 EInt w v l fp) (left : Int) (h1 : 0 ≤ left) (h2 : left ≤ 1048576) :
    Calls Try.prog 52 #[v, .int .i64 left] w (Gives w (.int .i64 (szN left l.length))) := by
  obtain ⟨oa, cap, rfl, hc, hm, _⟩ := h
  have hn := Nat.le_trans hc hm
  generalize l.length = n at *
  unfold maxLen at hn
  clear hc hm
  by_cases h : left - n < 0
  · have H := Lib.hid (szN_neg h)
    go_enter Try.func52, Try.ntmps52
    go_wp2
    go_ret
    exact ⟨ret_int H.out, Below.refl _ _⟩
  · have H := Lib.hid (szN_pos h)
    go_enter Try.func52, Try.ntmps52
    go_wp2
    go_ret
    exact ⟨ret_int H.out, Below.refl _ _⟩


set_option maxHeartbeats 400000 in
set_option maxRecDepth 100000 in
theorem szByteSS (w : World) (v : Value) (l : (List (List UInt8))) (fp : List Nat) (h : Sl 1 (ESl 1 EU8) w v l fp) (left : Int) (h1 : 0 ≤ left) (h2 : left ≤ 1048576) :
    Calls Try.prog 164 #[v, .int .i64 left] w (Gives w (.int .i64 (szN left (lsz List.length l)))) := by
  have HX := Lib.hid h
  obtain ⟨oa, cap, rfl, hc, hm, _⟩ := h
  obtain ⟨n, hl⟩ : ∃ n, n = l.length := ⟨_, rfl⟩
  rw [← hl] at hc ⊢ HX
  unfold maxLen at hm
  by_cases hq : left - n < 0
  · have H := Lib.hid (szN_neg (left := left) (n := lsz List.length l) (by unfold lsz; omega))
    clear hl
    go_enter Try.func164, Try.ntmps164
    go_wp2_with fail
    go_ret
    exact ⟨ret_int H.out, Below.refl _ _⟩
  · have HL := Lib.hid hl; clear hl
    have hq' : 0 ≤ left - (n : Int) := by omega
    clear hq
    go_enter Try.func164, Try.ntmps164
    go_wp2_with fail
    go_loopw [5, 1] (fun i t wr => ∃ k : Nat, k ≤ n ∧ i = .int .i64 k ∧ ∃ s : Nat, Hid (s = n + ((l.take k).map List.length).sum) ∧ (s : Int) ≤ left ∧ t = .int .i64 (left - s) ∧ Below w.heap.size w wr) (fun i _ _ => n - (intOf i).toNat)
    case atStart => exact ⟨0, by omega, rfl, n, by show _ = _; simp, by omega, rfl, Below.refl _ _⟩
    case round =>
      obtain ⟨k, hk, rfl, s, HS, hs, rfl, hb⟩ := hrel
      by_cases hk2 : k < n
      · obtain ⟨x, hx⟩ := getE (l := l) (k := k) (by have := HL.out; omega)
        obtain ⟨b, off, f, cs, rfl, hr, hE, _⟩ := (Sl.below (good_sl good_u8) HX.out hb).at hx
        have HY := Lib.hid hx
        clear hx
        obtain ⟨ve, rfl, hE⟩ := hE
        have hc0 : wr.cell? ⟨b, off + k, none⟩ = some ve := by have := hr 0 _ rfl; simpa using this
        have HE := Lib.hid hE
        clear hE hr
        by_cases hq : left - s - (List.length x : Nat) < 0
        · have H1 := Lib.hid (szN_neg hq)
          have H := Lib.hid (szN_neg (left := left) (n := lsz List.length l) (by have h1 := take_sum l List.length k x HY.out; have h2 := take_sum_le l List.length (k + 1); have := HS.out; have := HL.out; unfold lsz; omega))
          clear hq
          go_wp2_with fail
          refine (szByteS _ _ _ _ HE.out _ (by omega) (by omega)).mono ?_
          rintro e w1 ⟨rfl, hb1⟩
          rw [H1.out]
          go_wp2
          go_ret
          exact ⟨ret_int H.out, hb.trans (hb1.mono hb.size)⟩
        · have H1 := Lib.hid (show szN (left - s) (List.length x) = left - ((s + List.length x : Nat) : Int) by rw [szN_pos hq]; omega)
          have hq2 : 0 ≤ left - ((s + List.length x : Nat) : Int) := by omega
          clear hq
          go_wp2_with fail
          refine (szByteS _ _ _ _ HE.out _ (by omega) (by omega)).mono ?_
          rintro e w1 ⟨rfl, hb1⟩
          rw [H1.out]
          go_wp2
          go_roundw
          case rel => exact ⟨k + 1, by omega, by go_num, s + List.length x, by show _ = _; have h1 := take_sum l List.length k x HY.out; rw [h1]; have := HS.out; omega, by omega, rfl, hb.trans (hb1.mono hb.size)⟩
          case measure => simp [intOf]; omega
      · have hkn : k = n := by omega
        have H := Lib.hid (show szN left (lsz List.length l) = left - s by
          have := HS.out; have := HL.out; rw [szN_pos] <;> rw [hkn, HL.out, List.take_length] at * <;> unfold lsz <;> omega)
        clear hkn
        go_wp2
        go_ret
        exact ⟨ret_int H.out, hb⟩


set_option maxHeartbeats 400000 in
set_option maxRecDepth 100000 in
theorem szDatabase (w : World) (cs : List Value) (x : DB) (fp : List Nat) (hx : EDB w cs x fp) (left : Int) (h1 : 0 ≤ left) (h2 : left ≤ 1048576) :
    Calls Try.prog 165 #[.agg cs.toArray, .int .i64 left] w (Gives w (.int .i64 (szN left (size_DB x)))) := by
  obtain ⟨v_rows, f_rows, rfl, h_rows, rfl⟩ := hx
  have H_rows := Lib.hid h_rows
  clear h_rows
  go_enter Try.func165, Try.ntmps165
  go_wp2_with fail
  by_cases q0 : left - ((lsz List.length) x.rows : Nat) < 0
  · have s0 := Lib.hid (szN_neg q0)
    have Q0 := Lib.hid q0
    refine (szByteSS _ _ _ _ (Sl.agree (good_sl good_u8) H_rows.out (agree_below (B := w.heap.size) ((Below.refl _ _).alloc (Nat.le_refl _) _) (Sl.lt (good_sl good_u8) H_rows.out))) _ (by omega) (by omega)).mono ?_
    rintro e w1 ⟨rfl, hb⟩
    rw [s0.out]
    have hB1 : Below w.heap.size w w1 := ((Below.refl _ _).alloc (Nat.le_refl _) _).trans (hb.mono (by simp))
    have k1 := blk hb (alloc_top (k := w.heap.size) rfl)
    have c1 := cellB k1; have K1 := Lib.hid k1; clear k1 hb
    clear q0
    go_wp2
    go_ret
    exact ⟨ret_int (szN_neg (by have := Q0.out; unfold size_DB; omega)), hB1⟩
  · have s0 := Lib.hid (szN_pos q0)
    have q0' : 0 ≤ left - ((lsz List.length) x.rows : Nat) := by omega
    refine (szByteSS _ _ _ _ (Sl.agree (good_sl good_u8) H_rows.out (agree_below (B := w.heap.size) ((Below.refl _ _).alloc (Nat.le_refl _) _) (Sl.lt (good_sl good_u8) H_rows.out))) _ (by omega) (by omega)).mono ?_
    rintro e w1 ⟨rfl, hb⟩
    rw [s0.out]
    have hB1 : Below w.heap.size w w1 := ((Below.refl _ _).alloc (Nat.le_refl _) _).trans (hb.mono (by simp))
    have k1 := blk hb (alloc_top (k := w.heap.size) rfl)
    have c1 := cellB k1; have K1 := Lib.hid k1; clear k1 hb
    clear q0
    go_wp2
    go_ret
    exact ⟨ret_int (by unfold size_DB; rw [szN_pos] <;> omega), hB1⟩


set_option maxHeartbeats 400000 in
set_option maxRecDepth 100000 in
theorem szReceivedShare (w : World) (cs : List Value) (x : RShare) (fp : List Nat) (hx : ERShare w cs x fp) (left : Int) (h1 : 0 ≤ left) (h2 : left ≤ 1048576) :
    Calls Try.prog 163 #[.agg cs.toArray, .int .i64 left] w (Gives w (.int .i64 (szN left (size_RShare x)))) := by
  obtain ⟨_, _, rfl, ⟨v_share_rows, f_share_rows, rfl, h_share_rows, rfl⟩, rfl⟩ := hx
  have H_share : Hid (EDB w [v_share_rows] x.share _) := Lib.hid ⟨_, _, rfl, h_share_rows, rfl⟩
  clear h_share_rows
  go_enter Try.func163, Try.ntmps163
  go_wp2_with fail
  by_cases q0 : left - (size_DB x.share : Nat) < 0
  · have s0 := Lib.hid (szN_neg q0)
    have Q0 := Lib.hid q0
    refine (szDatabase _ _ _ _ (good_DB.agree H_share.out (agree_below (B := w.heap.size) ((Below.refl _ _).alloc (Nat.le_refl _) _) (good_DB.lt H_share.out))) _ (by omega) (by omega)).mono ?_
    rintro e w1 ⟨rfl, hb⟩
    rw [s0.out]
    have hB1 : Below w.heap.size w w1 := ((Below.refl _ _).alloc (Nat.le_refl _) _).trans (hb.mono (by simp))
    have k1 := blk hb (alloc_top (k := w.heap.size) rfl)
    have c1 := cellB k1; have K1 := Lib.hid k1; clear k1 hb
    clear q0
    go_wp2
    go_ret
    exact ⟨ret_int (szN_neg (by have := Q0.out; unfold size_RShare; omega)), hB1⟩
  · have s0 := Lib.hid (szN_pos q0)
    have q0' : 0 ≤ left - (size_DB x.share : Nat) := by omega
    refine (szDatabase _ _ _ _ (good_DB.agree H_share.out (agree_below (B := w.heap.size) ((Below.refl _ _).alloc (Nat.le_refl _) _) (good_DB.lt H_share.out))) _ (by omega) (by omega)).mono ?_
    rintro e w1 ⟨rfl, hb⟩
    rw [s0.out]
    have hB1 : Below w.heap.size w w1 := ((Below.refl _ _).alloc (Nat.le_refl _) _).trans (hb.mono (by simp))
    have k1 := blk hb (alloc_top (k := w.heap.size) rfl)
    have c1 := cellB k1; have K1 := Lib.hid k1; clear k1 hb
    clear q0
    go_wp2
    go_ret
    exact ⟨ret_int (by unfold size_RShare; rw [szN_pos] <;> omega), hB1⟩


set_option maxHeartbeats 400000 in
set_option maxRecDepth 100000 in
theorem szReceivedShareS (w : World) (v : Value) (l : (List RShare)) (fp : List Nat) (h : Sl 2 ERShare w v l fp) (left : Int) (h1 : 0 ≤ left) (h2 : left ≤ 1048576) :
    Calls Try.prog 130 #[v, .int .i64 left] w (Gives w (.int .i64 (szN left (lsz size_RShare l)))) := by
  have HX := Lib.hid h
  obtain ⟨oa, cap, rfl, hc, hm, _⟩ := h
  obtain ⟨n, hl⟩ : ∃ n, n = l.length := ⟨_, rfl⟩
  rw [← hl] at hc ⊢ HX
  unfold maxLen at hm
  by_cases hq : left - n < 0
  · have H := Lib.hid (szN_neg (left := left) (n := lsz size_RShare l) (by unfold lsz; omega))
    clear hl
    go_enter Try.func130, Try.ntmps130
    go_wp2_with fail
    go_ret
    exact ⟨ret_int H.out, Below.refl _ _⟩
  · have HL := Lib.hid hl; clear hl
    have hq' : 0 ≤ left - (n : Int) := by omega
    clear hq
    go_enter Try.func130, Try.ntmps130
    go_wp2_with fail
    go_loopw [5, 1] (fun i t wr => ∃ k : Nat, k ≤ n ∧ i = .int .i64 k ∧ ∃ s : Nat, Hid (s = n + ((l.take k).map size_RShare).sum) ∧ (s : Int) ≤ left ∧ t = .int .i64 (left - s) ∧ Below w.heap.size w wr) (fun i _ _ => n - (intOf i).toNat)
    case atStart => exact ⟨0, by omega, rfl, n, by show _ = _; simp, by omega, rfl, Below.refl _ _⟩
    case round =>
      obtain ⟨k, hk, rfl, s, HS, hs, rfl, hb⟩ := hrel
      by_cases hk2 : k < n
      · obtain ⟨x, hx⟩ := getE (l := l) (k := k) (by have := HL.out; omega)
        obtain ⟨b, off, f, cs, rfl, hr, hE, _⟩ := (Sl.below good_RShare HX.out hb).at hx
        have HY := Lib.hid hx
        clear hx
        have HR := Lib.hid hr
        have hcs := Lib.hid (good_RShare.len hE)
        have HE := Lib.hid hE
        clear hE hr
        by_cases hq : left - s - (size_RShare x : Nat) < 0
        · have H1 := Lib.hid (szN_neg hq)
          have H := Lib.hid (szN_neg (left := left) (n := lsz size_RShare l) (by have h1 := take_sum l size_RShare k x HY.out; have h2 := take_sum_le l size_RShare (k + 1); have := HS.out; have := HL.out; unfold lsz; omega))
          clear hq
          go_wp2_with ((with_reducible refine wpList_ld (op := ⟨some 21, _, _, _, _, _⟩) row_RShare_laws HR.out hcs.out rfl rfl ?_ ?_); exact rfl)
          refine (szReceivedShare _ _ _ _ HE.out _ (by omega) (by omega)).mono ?_
          rintro e w1 ⟨rfl, hb1⟩
          rw [H1.out]
          go_wp2
          go_ret
          exact ⟨ret_int H.out, hb.trans (hb1.mono hb.size)⟩
        · have H1 := Lib.hid (show szN (left - s) (size_RShare x) = left - ((s + size_RShare x : Nat) : Int) by rw [szN_pos hq]; omega)
          have hq2 : 0 ≤ left - ((s + size_RShare x : Nat) : Int) := by omega
          clear hq
          go_wp2_with ((with_reducible refine wpList_ld (op := ⟨some 21, _, _, _, _, _⟩) row_RShare_laws HR.out hcs.out rfl rfl ?_ ?_); exact rfl)
          refine (szReceivedShare _ _ _ _ HE.out _ (by omega) (by omega)).mono ?_
          rintro e w1 ⟨rfl, hb1⟩
          rw [H1.out]
          go_wp2
          go_roundw
          case rel => exact ⟨k + 1, by omega, by go_num, s + size_RShare x, by show _ = _; have h1 := take_sum l size_RShare k x HY.out; rw [h1]; have := HS.out; omega, by omega, rfl, hb.trans (hb1.mono hb.size)⟩
          case measure => simp [intOf]; omega
      · have hkn : k = n := by omega
        have H := Lib.hid (show szN left (lsz size_RShare l) = left - s by
          have := HS.out; have := HL.out; rw [szN_pos] <;> rw [hkn, HL.out, List.take_length] at * <;> unfold lsz <;> omega)
        clear hkn
        go_wp2
        go_ret
        exact ⟨ret_int H.out, hb⟩


set_option maxHeartbeats 400000 in
set_option maxRecDepth 100000 in
theorem szServer (w : World) (cs : List Value) (x : Srv) (fp : List Nat) (hx : ESrv w cs x fp) (left : Int) (h1 : 0 ≤ left) (h2 : left ≤ 1048576) :
    Calls Try.prog 93 #[.agg cs.toArray, .int .i64 left] w (Gives w (.int .i64 (szN left (size_Srv x)))) := by
  obtain ⟨v_received, f_received, rfl, h_received, rfl⟩ := hx
  have H_received := Lib.hid h_received
  clear h_received
  go_enter Try.func93, Try.ntmps93
  go_wp2_with fail
  by_cases q0 : left - ((lsz size_RShare) x.received : Nat) < 0
  · have s0 := Lib.hid (szN_neg q0)
    have Q0 := Lib.hid q0
    refine (szReceivedShareS _ _ _ _ (Sl.agree good_RShare H_received.out (agree_below (B := w.heap.size) ((Below.refl _ _).alloc (Nat.le_refl _) _) (Sl.lt good_RShare H_received.out))) _ (by omega) (by omega)).mono ?_
    rintro e w1 ⟨rfl, hb⟩
    rw [s0.out]
    have hB1 : Below w.heap.size w w1 := ((Below.refl _ _).alloc (Nat.le_refl _) _).trans (hb.mono (by simp))
    have k1 := blk hb (alloc_top (k := w.heap.size) rfl)
    have c1 := cellB k1; have K1 := Lib.hid k1; clear k1 hb
    clear q0
    go_wp2
    go_ret
    exact ⟨ret_int (szN_neg (by have := Q0.out; unfold size_Srv; omega)), hB1⟩
  · have s0 := Lib.hid (szN_pos q0)
    have q0' : 0 ≤ left - ((lsz size_RShare) x.received : Nat) := by omega
    refine (szReceivedShareS _ _ _ _ (Sl.agree good_RShare H_received.out (agree_below (B := w.heap.size) ((Below.refl _ _).alloc (Nat.le_refl _) _) (Sl.lt good_RShare H_received.out))) _ (by omega) (by omega)).mono ?_
    rintro e w1 ⟨rfl, hb⟩
    rw [s0.out]
    have hB1 : Below w.heap.size w w1 := ((Below.refl _ _).alloc (Nat.le_refl _) _).trans (hb.mono (by simp))
    have k1 := blk hb (alloc_top (k := w.heap.size) rfl)
    have c1 := cellB k1; have K1 := Lib.hid k1; clear k1 hb
    clear q0
    go_wp2
    go_ret
    exact ⟨ret_int (by unfold size_Srv; rw [szN_pos] <;> omega), hB1⟩


set_option maxHeartbeats 400000 in
set_option maxRecDepth 100000 in
theorem szArchivedRound (w : World) (cs : List Value) (x : ARound) (fp : List Nat) (hx : EARound w cs x fp) (left : Int) (h1 : 0 ≤ left) (h2 : left ≤ 1048576) :
    Calls Try.prog 132 #[.agg cs.toArray, .int .i64 left] w (Gives w (.int .i64 (szN left (size_ARound x)))) := by
  obtain ⟨_, _, rfl, ⟨v_db_rows, f_db_rows, rfl, h_db_rows, rfl⟩, rfl⟩ := hx
  have H_db : Hid (EDB w [v_db_rows] x.db _) := Lib.hid ⟨_, _, rfl, h_db_rows, rfl⟩
  clear h_db_rows
  go_enter Try.func132, Try.ntmps132
  go_wp2_with fail
  by_cases q0 : left - (size_DB x.db : Nat) < 0
  · have s0 := Lib.hid (szN_neg q0)
    have Q0 := Lib.hid q0
    refine (szDatabase _ _ _ _ (good_DB.agree H_db.out (agree_below (B := w.heap.size) ((Below.refl _ _).alloc (Nat.le_refl _) _) (good_DB.lt H_db.out))) _ (by omega) (by omega)).mono ?_
    rintro e w1 ⟨rfl, hb⟩
    rw [s0.out]
    have hB1 : Below w.heap.size w w1 := ((Below.refl _ _).alloc (Nat.le_refl _) _).trans (hb.mono (by simp))
    have k1 := blk hb (alloc_top (k := w.heap.size) rfl)
    have c1 := cellB k1; have K1 := Lib.hid k1; clear k1 hb
    clear q0
    go_wp2
    go_ret
    exact ⟨ret_int (szN_neg (by have := Q0.out; unfold size_ARound; omega)), hB1⟩
  · have s0 := Lib.hid (szN_pos q0)
    have q0' : 0 ≤ left - (size_DB x.db : Nat) := by omega
    refine (szDatabase _ _ _ _ (good_DB.agree H_db.out (agree_below (B := w.heap.size) ((Below.refl _ _).alloc (Nat.le_refl _) _) (good_DB.lt H_db.out))) _ (by omega) (by omega)).mono ?_
    rintro e w1 ⟨rfl, hb⟩
    rw [s0.out]
    have hB1 : Below w.heap.size w w1 := ((Below.refl _ _).alloc (Nat.le_refl _) _).trans (hb.mono (by simp))
    have k1 := blk hb (alloc_top (k := w.heap.size) rfl)
    have c1 := cellB k1; have K1 := Lib.hid k1; clear k1 hb
    clear q0
    go_wp2
    go_ret
    exact ⟨ret_int (by unfold size_ARound; rw [szN_pos] <;> omega), hB1⟩


set_option maxHeartbeats 400000 in
set_option maxRecDepth 100000 in
theorem szArchivedRoundS (w : World) (v : Value) (l : (List ARound)) (fp : List Nat) (h : Sl 2 EARound w v l fp) (left : Int) (h1 : 0 ≤ left) (h2 : left ≤ 1048576) :
    Calls Try.prog 95 #[v, .int .i64 left] w (Gives w (.int .i64 (szN left (lsz size_ARound l)))) := by
  have HX := Lib.hid h
  obtain ⟨oa, cap, rfl, hc, hm, _⟩ := h
  obtain ⟨n, hl⟩ : ∃ n, n = l.length := ⟨_, rfl⟩
  rw [← hl] at hc ⊢ HX
  unfold maxLen at hm
  by_cases hq : left - n < 0
  · have H := Lib.hid (szN_neg (left := left) (n := lsz size_ARound l) (by unfold lsz; omega))
    clear hl
    go_enter Try.func95, Try.ntmps95
    go_wp2_with fail
    go_ret
    exact ⟨ret_int H.out, Below.refl _ _⟩
  · have HL := Lib.hid hl; clear hl
    have hq' : 0 ≤ left - (n : Int) := by omega
    clear hq
    go_enter Try.func95, Try.ntmps95
    go_wp2_with fail
    go_loopw [5, 1] (fun i t wr => ∃ k : Nat, k ≤ n ∧ i = .int .i64 k ∧ ∃ s : Nat, Hid (s = n + ((l.take k).map size_ARound).sum) ∧ (s : Int) ≤ left ∧ t = .int .i64 (left - s) ∧ Below w.heap.size w wr) (fun i _ _ => n - (intOf i).toNat)
    case atStart => exact ⟨0, by omega, rfl, n, by show _ = _; simp, by omega, rfl, Below.refl _ _⟩
    case round =>
      obtain ⟨k, hk, rfl, s, HS, hs, rfl, hb⟩ := hrel
      by_cases hk2 : k < n
      · obtain ⟨x, hx⟩ := getE (l := l) (k := k) (by have := HL.out; omega)
        obtain ⟨b, off, f, cs, rfl, hr, hE, _⟩ := (Sl.below good_ARound HX.out hb).at hx
        have HY := Lib.hid hx
        clear hx
        have HR := Lib.hid hr
        have hcs := Lib.hid (good_ARound.len hE)
        have HE := Lib.hid hE
        clear hE hr
        by_cases hq : left - s - (size_ARound x : Nat) < 0
        · have H1 := Lib.hid (szN_neg hq)
          have H := Lib.hid (szN_neg (left := left) (n := lsz size_ARound l) (by have h1 := take_sum l size_ARound k x HY.out; have h2 := take_sum_le l size_ARound (k + 1); have := HS.out; have := HL.out; unfold lsz; omega))
          clear hq
          go_wp2_with ((with_reducible refine wpList_ld (op := ⟨some 21, _, _, _, _, _⟩) row_ARound_laws HR.out hcs.out rfl rfl ?_ ?_); exact rfl)
          refine (szArchivedRound _ _ _ _ HE.out _ (by omega) (by omega)).mono ?_
          rintro e w1 ⟨rfl, hb1⟩
          rw [H1.out]
          go_wp2
          go_ret
          exact ⟨ret_int H.out, hb.trans (hb1.mono hb.size)⟩
        · have H1 := Lib.hid (show szN (left - s) (size_ARound x) = left - ((s + size_ARound x : Nat) : Int) by rw [szN_pos hq]; omega)
          have hq2 : 0 ≤ left - ((s + size_ARound x : Nat) : Int) := by omega
          clear hq
          go_wp2_with ((with_reducible refine wpList_ld (op := ⟨some 21, _, _, _, _, _⟩) row_ARound_laws HR.out hcs.out rfl rfl ?_ ?_); exact rfl)
          refine (szArchivedRound _ _ _ _ HE.out _ (by omega) (by omega)).mono ?_
          rintro e w1 ⟨rfl, hb1⟩
          rw [H1.out]
          go_wp2
          go_roundw
          case rel => exact ⟨k + 1, by omega, by go_num, s + size_ARound x, by show _ = _; have h1 := take_sum l size_ARound k x HY.out; rw [h1]; have := HS.out; omega, by omega, rfl, hb.trans (hb1.mono hb.size)⟩
          case measure => simp [intOf]; omega
      · have hkn : k = n := by omega
        have H := Lib.hid (show szN left (lsz size_ARound l) = left - s by
          have := HS.out; have := HL.out; rw [szN_pos] <;> rw [hkn, HL.out, List.take_length] at * <;> unfold lsz <;> omega)
        clear hkn
        go_wp2
        go_ret
        exact ⟨ret_int H.out, hb⟩


set_option maxHeartbeats 400000 in
set_option maxRecDepth 100000 in
theorem szArchive (w : World) (cs : List Value) (x : Arc) (fp : List Nat) (hx : EArc w cs x fp) (left : Int) (h1 : 0 ≤ left) (h2 : left ≤ 1048576) :
    Calls Try.prog 51 #[.agg cs.toArray, .int .i64 left] w (Gives w (.int .i64 (szN left (size_Arc x)))) := by
  obtain ⟨v_rounds, f_rounds, rfl, h_rounds, rfl⟩ := hx
  have H_rounds := Lib.hid h_rounds
  clear h_rounds
  go_enter Try.func51, Try.ntmps51
  go_wp2_with fail
  by_cases q0 : left - ((lsz size_ARound) x.rounds : Nat) < 0
  · have s0 := Lib.hid (szN_neg q0)
    have Q0 := Lib.hid q0
    refine (szArchivedRoundS _ _ _ _ (Sl.agree good_ARound H_rounds.out (agree_below (B := w.heap.size) ((Below.refl _ _).alloc (Nat.le_refl _) _) (Sl.lt good_ARound H_rounds.out))) _ (by omega) (by omega)).mono ?_
    rintro e w1 ⟨rfl, hb⟩
    rw [s0.out]
    have hB1 : Below w.heap.size w w1 := ((Below.refl _ _).alloc (Nat.le_refl _) _).trans (hb.mono (by simp))
    have k1 := blk hb (alloc_top (k := w.heap.size) rfl)
    have c1 := cellB k1; have K1 := Lib.hid k1; clear k1 hb
    clear q0
    go_wp2
    go_ret
    exact ⟨ret_int (szN_neg (by have := Q0.out; unfold size_Arc; omega)), hB1⟩
  · have s0 := Lib.hid (szN_pos q0)
    have q0' : 0 ≤ left - ((lsz size_ARound) x.rounds : Nat) := by omega
    refine (szArchivedRoundS _ _ _ _ (Sl.agree good_ARound H_rounds.out (agree_below (B := w.heap.size) ((Below.refl _ _).alloc (Nat.le_refl _) _) (Sl.lt good_ARound H_rounds.out))) _ (by omega) (by omega)).mono ?_
    rintro e w1 ⟨rfl, hb⟩
    rw [s0.out]
    have hB1 : Below w.heap.size w w1 := ((Below.refl _ _).alloc (Nat.le_refl _) _).trans (hb.mono (by simp))
    have k1 := blk hb (alloc_top (k := w.heap.size) rfl)
    have c1 := cellB k1; have K1 := Lib.hid k1; clear k1 hb
    clear q0
    go_wp2
    go_ret
    exact ⟨ret_int (by unfold size_Arc; rw [szN_pos] <;> omega), hB1⟩


set_option maxHeartbeats 400000 in
set_option maxRecDepth 100000 in
theorem szClient (w : World) (cs : List Value) (x : Cli) (fp : List Nat) (hx : ECli w cs x fp) (left : Int) (h1 : 0 ≤ left) (h2 : left ≤ 1048576) :
    Calls Try.prog 131 #[.agg cs.toArray, .int .i64 left] w (Gives w (.int .i64 (szN left (size_Cli x)))) := by
  obtain ⟨v_submitted, v_inbox, f_submitted, f_inbox, rfl, h_submitted, h_inbox, rfl⟩ := hx
  have H_submitted := Lib.hid h_submitted
  have H_inbox := Lib.hid h_inbox
  clear h_submitted h_inbox
  go_enter Try.func131, Try.ntmps131
  go_wp2_with fail
  by_cases q0 : left - ((lsz List.length) x.submitted : Nat) < 0
  · have s0 := Lib.hid (szN_neg q0)
    have Q0 := Lib.hid q0
    refine (szByteSS _ _ _ _ (Sl.agree (good_sl good_u8) H_submitted.out (agree_below (B := w.heap.size) ((Below.refl _ _).alloc (Nat.le_refl _) _) (Sl.lt (good_sl good_u8) H_submitted.out))) _ (by omega) (by omega)).mono ?_
    rintro e w1 ⟨rfl, hb⟩
    rw [s0.out]
    have hB1 : Below w.heap.size w w1 := ((Below.refl _ _).alloc (Nat.le_refl _) _).trans (hb.mono (by simp))
    have k1 := blk hb (alloc_top (k := w.heap.size) rfl)
    have c1 := cellB k1; have K1 := Lib.hid k1; clear k1 hb
    clear q0
    go_wp2
    go_ret
    exact ⟨ret_int (szN_neg (by have := Q0.out; unfold size_Cli; omega)), hB1⟩
  · have s0 := Lib.hid (szN_pos q0)
    have q0' : 0 ≤ left - ((lsz List.length) x.submitted : Nat) := by omega
    refine (szByteSS _ _ _ _ (Sl.agree (good_sl good_u8) H_submitted.out (agree_below (B := w.heap.size) ((Below.refl _ _).alloc (Nat.le_refl _) _) (Sl.lt (good_sl good_u8) H_submitted.out))) _ (by omega) (by omega)).mono ?_
    rintro e w1 ⟨rfl, hb⟩
    rw [s0.out]
    have hB1 : Below w.heap.size w w1 := ((Below.refl _ _).alloc (Nat.le_refl _) _).trans (hb.mono (by simp))
    have k1 := blk hb (alloc_top (k := w.heap.size) rfl)
    have c1 := cellB k1; have K1 := Lib.hid k1; clear k1 hb
    clear q0
    go_wp2_with fail
    by_cases q1 : left - ((lsz List.length) x.submitted : Nat) - ((lsz List.length) x.inbox : Nat) < 0
    · have s1 := Lib.hid (szN_neg q1)
      have Q1 := Lib.hid q1
      refine (szByteSS _ _ _ _ (Sl.agree (good_sl good_u8) H_inbox.out (agree_below hB1 (Sl.lt (good_sl good_u8) H_inbox.out))) _ (by omega) (by omega)).mono ?_
      rintro e w2 ⟨rfl, hb⟩
      rw [s1.out]
      have hB2 : Below w.heap.size w w2 := hB1.trans (hb.mono hB1.size)
      have k2 := blk hb K1.out
      have c2 := cellB k2; have K2 := Lib.hid k2; clear k2 hb c1
      clear q1
      go_wp2
      go_ret
      exact ⟨ret_int (szN_neg (by have := Q1.out; unfold size_Cli; omega)), hB2⟩
    · have s1 := Lib.hid (szN_pos q1)
      have q1' : 0 ≤ left - ((lsz List.length) x.submitted : Nat) - ((lsz List.length) x.inbox : Nat) := by omega
      refine (szByteSS _ _ _ _ (Sl.agree (good_sl good_u8) H_inbox.out (agree_below hB1 (Sl.lt (good_sl good_u8) H_inbox.out))) _ (by omega) (by omega)).mono ?_
      rintro e w2 ⟨rfl, hb⟩
      rw [s1.out]
      have hB2 : Below w.heap.size w w2 := hB1.trans (hb.mono hB1.size)
      have k2 := blk hb K1.out
      have c2 := cellB k2; have K2 := Lib.hid k2; clear k2 hb c1
      clear q1
      go_wp2
      go_ret
      exact ⟨ret_int (by unfold size_Cli; rw [szN_pos] <;> omega), hB2⟩


set_option maxHeartbeats 400000 in
set_option maxRecDepth 100000 in
theorem szDevice (w : World) (cs : List Value) (x : Dev) (fp : List Nat) (hx : EDev w cs x fp) (left : Int) (h1 : 0 ≤ left) (h2 : left ≤ 1048576) :
    Calls Try.prog 94 #[.agg cs.toArray, .int .i64 left] w (Gives w (.int .i64 (szN left (size_Dev x)))) := by
  obtain ⟨_, _, _, _, rfl, ⟨v_live_submitted, v_live_inbox, f_live_submitted, f_live_inbox, rfl, h_live_submitted, h_live_inbox, rfl⟩, ⟨v_saved_submitted, v_saved_inbox, f_saved_submitted, f_saved_inbox, rfl, h_saved_submitted, h_saved_inbox, rfl⟩, rfl⟩ := hx
  have H_live : Hid (ECli w [.int .i64 x.live.id, .int .i64 x.live.friend, .int .i64 x.live.key, .int .i64 x.live.seed, v_live_submitted, .int .i64 x.live.sent, v_live_inbox, .int .i64 x.live.next] x.live _) := Lib.hid ⟨_, _, _, _, rfl, h_live_submitted, h_live_inbox, rfl⟩
  have H_saved : Hid (ECli w [.int .i64 x.saved.id, .int .i64 x.saved.friend, .int .i64 x.saved.key, .int .i64 x.saved.seed, v_saved_submitted, .int .i64 x.saved.sent, v_saved_inbox, .int .i64 x.saved.next] x.saved _) := Lib.hid ⟨_, _, _, _, rfl, h_saved_submitted, h_saved_inbox, rfl⟩
  clear h_live_submitted h_live_inbox h_saved_submitted h_saved_inbox
  go_enter Try.func94, Try.ntmps94
  go_wp2_with fail
  by_cases q0 : left - (size_Cli x.live : Nat) < 0
  · have s0 := Lib.hid (szN_neg q0)
    have Q0 := Lib.hid q0
    refine (szClient _ _ _ _ (good_Cli.agree H_live.out (agree_below (B := w.heap.size) ((Below.refl _ _).alloc (Nat.le_refl _) _) (good_Cli.lt H_live.out))) _ (by omega) (by omega)).mono ?_
    rintro e w1 ⟨rfl, hb⟩
    rw [s0.out]
    have hB1 : Below w.heap.size w w1 := ((Below.refl _ _).alloc (Nat.le_refl _) _).trans (hb.mono (by simp))
    have k1 := blk hb (alloc_top (k := w.heap.size) rfl)
    have c1 := cellB k1; have K1 := Lib.hid k1; clear k1 hb
    clear q0
    go_wp2
    go_ret
    exact ⟨ret_int (szN_neg (by have := Q0.out; unfold size_Dev; omega)), hB1⟩
  · have s0 := Lib.hid (szN_pos q0)
    have q0' : 0 ≤ left - (size_Cli x.live : Nat) := by omega
    refine (szClient _ _ _ _ (good_Cli.agree H_live.out (agree_below (B := w.heap.size) ((Below.refl _ _).alloc (Nat.le_refl _) _) (good_Cli.lt H_live.out))) _ (by omega) (by omega)).mono ?_
    rintro e w1 ⟨rfl, hb⟩
    rw [s0.out]
    have hB1 : Below w.heap.size w w1 := ((Below.refl _ _).alloc (Nat.le_refl _) _).trans (hb.mono (by simp))
    have k1 := blk hb (alloc_top (k := w.heap.size) rfl)
    have c1 := cellB k1; have K1 := Lib.hid k1; clear k1 hb
    clear q0
    go_wp2_with fail
    by_cases q1 : left - (size_Cli x.live : Nat) - (size_Cli x.saved : Nat) < 0
    · have s1 := Lib.hid (szN_neg q1)
      have Q1 := Lib.hid q1
      refine (szClient _ _ _ _ (good_Cli.agree H_saved.out (agree_below hB1 (good_Cli.lt H_saved.out))) _ (by omega) (by omega)).mono ?_
      rintro e w2 ⟨rfl, hb⟩
      rw [s1.out]
      have hB2 : Below w.heap.size w w2 := hB1.trans (hb.mono hB1.size)
      have k2 := blk hb K1.out
      have c2 := cellB k2; have K2 := Lib.hid k2; clear k2 hb c1
      clear q1
      go_wp2
      go_ret
      exact ⟨ret_int (szN_neg (by have := Q1.out; unfold size_Dev; omega)), hB2⟩
    · have s1 := Lib.hid (szN_pos q1)
      have q1' : 0 ≤ left - (size_Cli x.live : Nat) - (size_Cli x.saved : Nat) := by omega
      refine (szClient _ _ _ _ (good_Cli.agree H_saved.out (agree_below hB1 (good_Cli.lt H_saved.out))) _ (by omega) (by omega)).mono ?_
      rintro e w2 ⟨rfl, hb⟩
      rw [s1.out]
      have hB2 : Below w.heap.size w w2 := hB1.trans (hb.mono hB1.size)
      have k2 := blk hb K1.out
      have c2 := cellB k2; have K2 := Lib.hid k2; clear k2 hb c1
      clear q1
      go_wp2
      go_ret
      exact ⟨ret_int (by unfold size_Dev; rw [szN_pos] <;> omega), hB2⟩


set_option maxHeartbeats 400000 in
set_option maxRecDepth 100000 in
theorem szServerS (w : World) (v : Value) (l : (List Srv)) (fp : List Nat) (h : Sl 5 ESrv w v l fp) (left : Int) (h1 : 0 ≤ left) (h2 : left ≤ 1048576) :
    Calls Try.prog 49 #[v, .int .i64 left] w (Gives w (.int .i64 (szN left (lsz size_Srv l)))) := by
  have HX := Lib.hid h
  obtain ⟨oa, cap, rfl, hc, hm, _⟩ := h
  obtain ⟨n, hl⟩ : ∃ n, n = l.length := ⟨_, rfl⟩
  rw [← hl] at hc ⊢ HX
  unfold maxLen at hm
  by_cases hq : left - n < 0
  · have H := Lib.hid (szN_neg (left := left) (n := lsz size_Srv l) (by unfold lsz; omega))
    clear hl
    go_enter Try.func49, Try.ntmps49
    go_wp2_with fail
    go_ret
    exact ⟨ret_int H.out, Below.refl _ _⟩
  · have HL := Lib.hid hl; clear hl
    have hq' : 0 ≤ left - (n : Int) := by omega
    clear hq
    go_enter Try.func49, Try.ntmps49
    go_wp2_with fail
    go_loopw [5, 1] (fun i t wr => ∃ k : Nat, k ≤ n ∧ i = .int .i64 k ∧ ∃ s : Nat, Hid (s = n + ((l.take k).map size_Srv).sum) ∧ (s : Int) ≤ left ∧ t = .int .i64 (left - s) ∧ Below w.heap.size w wr) (fun i _ _ => n - (intOf i).toNat)
    case atStart => exact ⟨0, by omega, rfl, n, by show _ = _; simp, by omega, rfl, Below.refl _ _⟩
    case round =>
      obtain ⟨k, hk, rfl, s, HS, hs, rfl, hb⟩ := hrel
      by_cases hk2 : k < n
      · obtain ⟨x, hx⟩ := getE (l := l) (k := k) (by have := HL.out; omega)
        obtain ⟨b, off, f, cs, rfl, hr, hE, _⟩ := (Sl.below good_Srv HX.out hb).at hx
        have HY := Lib.hid hx
        clear hx
        have HR := Lib.hid hr
        have hcs := Lib.hid (good_Srv.len hE)
        have HE := Lib.hid hE
        clear hE hr
        by_cases hq : left - s - (size_Srv x : Nat) < 0
        · have H1 := Lib.hid (szN_neg hq)
          have H := Lib.hid (szN_neg (left := left) (n := lsz size_Srv l) (by have h1 := take_sum l size_Srv k x HY.out; have h2 := take_sum_le l size_Srv (k + 1); have := HS.out; have := HL.out; unfold lsz; omega))
          clear hq
          go_wp2_with ((with_reducible refine wpList_ld (op := ⟨some 21, _, _, _, _, _⟩) row_Srv_laws HR.out hcs.out rfl rfl ?_ ?_); exact rfl)
          refine (szServer _ _ _ _ HE.out _ (by omega) (by omega)).mono ?_
          rintro e w1 ⟨rfl, hb1⟩
          rw [H1.out]
          go_wp2
          go_ret
          exact ⟨ret_int H.out, hb.trans (hb1.mono hb.size)⟩
        · have H1 := Lib.hid (show szN (left - s) (size_Srv x) = left - ((s + size_Srv x : Nat) : Int) by rw [szN_pos hq]; omega)
          have hq2 : 0 ≤ left - ((s + size_Srv x : Nat) : Int) := by omega
          clear hq
          go_wp2_with ((with_reducible refine wpList_ld (op := ⟨some 21, _, _, _, _, _⟩) row_Srv_laws HR.out hcs.out rfl rfl ?_ ?_); exact rfl)
          refine (szServer _ _ _ _ HE.out _ (by omega) (by omega)).mono ?_
          rintro e w1 ⟨rfl, hb1⟩
          rw [H1.out]
          go_wp2
          go_roundw
          case rel => exact ⟨k + 1, by omega, by go_num, s + size_Srv x, by show _ = _; have h1 := take_sum l size_Srv k x HY.out; rw [h1]; have := HS.out; omega, by omega, rfl, hb.trans (hb1.mono hb.size)⟩
          case measure => simp [intOf]; omega
      · have hkn : k = n := by omega
        have H := Lib.hid (show szN left (lsz size_Srv l) = left - s by
          have := HS.out; have := HL.out; rw [szN_pos] <;> rw [hkn, HL.out, List.take_length] at * <;> unfold lsz <;> omega)
        clear hkn
        go_wp2
        go_ret
        exact ⟨ret_int H.out, hb⟩


set_option maxHeartbeats 400000 in
set_option maxRecDepth 100000 in
theorem szDeviceS (w : World) (v : Value) (l : (List Dev)) (fp : List Nat) (h : Sl 16 EDev w v l fp) (left : Int) (h1 : 0 ≤ left) (h2 : left ≤ 1048576) :
    Calls Try.prog 50 #[v, .int .i64 left] w (Gives w (.int .i64 (szN left (lsz size_Dev l)))) := by
  have HX := Lib.hid h
  obtain ⟨oa, cap, rfl, hc, hm, _⟩ := h
  obtain ⟨n, hl⟩ : ∃ n, n = l.length := ⟨_, rfl⟩
  rw [← hl] at hc ⊢ HX
  unfold maxLen at hm
  by_cases hq : left - n < 0
  · have H := Lib.hid (szN_neg (left := left) (n := lsz size_Dev l) (by unfold lsz; omega))
    clear hl
    go_enter Try.func50, Try.ntmps50
    go_wp2_with fail
    go_ret
    exact ⟨ret_int H.out, Below.refl _ _⟩
  · have HL := Lib.hid hl; clear hl
    have hq' : 0 ≤ left - (n : Int) := by omega
    clear hq
    go_enter Try.func50, Try.ntmps50
    go_wp2_with fail
    go_loopw [5, 1] (fun i t wr => ∃ k : Nat, k ≤ n ∧ i = .int .i64 k ∧ ∃ s : Nat, Hid (s = n + ((l.take k).map size_Dev).sum) ∧ (s : Int) ≤ left ∧ t = .int .i64 (left - s) ∧ Below w.heap.size w wr) (fun i _ _ => n - (intOf i).toNat)
    case atStart => exact ⟨0, by omega, rfl, n, by show _ = _; simp, by omega, rfl, Below.refl _ _⟩
    case round =>
      obtain ⟨k, hk, rfl, s, HS, hs, rfl, hb⟩ := hrel
      by_cases hk2 : k < n
      · obtain ⟨x, hx⟩ := getE (l := l) (k := k) (by have := HL.out; omega)
        obtain ⟨b, off, f, cs, rfl, hr, hE, _⟩ := (Sl.below good_Dev HX.out hb).at hx
        have HY := Lib.hid hx
        clear hx
        have HR := Lib.hid hr
        have hcs := Lib.hid (good_Dev.len hE)
        have HE := Lib.hid hE
        clear hE hr
        by_cases hq : left - s - (size_Dev x : Nat) < 0
        · have H1 := Lib.hid (szN_neg hq)
          have H := Lib.hid (szN_neg (left := left) (n := lsz size_Dev l) (by have h1 := take_sum l size_Dev k x HY.out; have h2 := take_sum_le l size_Dev (k + 1); have := HS.out; have := HL.out; unfold lsz; omega))
          clear hq
          go_wp2_with ((with_reducible refine wpList_ld (op := ⟨some 21, _, _, _, _, _⟩) row_Dev_laws HR.out hcs.out rfl rfl ?_ ?_); exact rfl)
          refine (szDevice _ _ _ _ HE.out _ (by omega) (by omega)).mono ?_
          rintro e w1 ⟨rfl, hb1⟩
          rw [H1.out]
          go_wp2
          go_ret
          exact ⟨ret_int H.out, hb.trans (hb1.mono hb.size)⟩
        · have H1 := Lib.hid (show szN (left - s) (size_Dev x) = left - ((s + size_Dev x : Nat) : Int) by rw [szN_pos hq]; omega)
          have hq2 : 0 ≤ left - ((s + size_Dev x : Nat) : Int) := by omega
          clear hq
          go_wp2_with ((with_reducible refine wpList_ld (op := ⟨some 21, _, _, _, _, _⟩) row_Dev_laws HR.out hcs.out rfl rfl ?_ ?_); exact rfl)
          refine (szDevice _ _ _ _ HE.out _ (by omega) (by omega)).mono ?_
          rintro e w1 ⟨rfl, hb1⟩
          rw [H1.out]
          go_wp2
          go_roundw
          case rel => exact ⟨k + 1, by omega, by go_num, s + size_Dev x, by show _ = _; have h1 := take_sum l size_Dev k x HY.out; rw [h1]; have := HS.out; omega, by omega, rfl, hb.trans (hb1.mono hb.size)⟩
          case measure => simp [intOf]; omega
      · have hkn : k = n := by omega
        have H := Lib.hid (show szN left (lsz size_Dev l) = left - s by
          have := HS.out; have := HL.out; rw [szN_pos] <;> rw [hkn, HL.out, List.take_length] at * <;> unfold lsz <;> omega)
        clear hkn
        go_wp2
        go_ret
        exact ⟨ret_int H.out, hb⟩


set_option maxHeartbeats 400000 in
set_option maxRecDepth 100000 in
theorem szWorld (w : World) (cs : List Value) (x : Wld) (fp : List Nat) (hx : EWld w cs x fp) (left : Int) (h1 : 0 ≤ left) (h2 : left ≤ 1048576) :
    Calls Try.prog 15 #[.agg cs.toArray, .int .i64 left] w (Gives w (.int .i64 (szN left (size_Wld x)))) := by
  obtain ⟨v_servers, v_devices, _, v_replaced, f_servers, f_devices, _, f_replaced, rfl, h_servers, h_devices, ⟨v_archive_rounds, f_archive_rounds, rfl, h_archive_rounds, rfl⟩, h_replaced, rfl⟩ := hx
  have H_servers := Lib.hid h_servers
  have H_devices := Lib.hid h_devices
  have H_archive : Hid (EArc w [.int .i64 x.archive.rows, v_archive_rounds] x.archive _) := Lib.hid ⟨_, _, rfl, h_archive_rounds, rfl⟩
  have H_replaced := Lib.hid h_replaced
  clear h_servers h_devices h_archive_rounds h_replaced
  go_enter Try.func15, Try.ntmps15
  go_wp2_with fail
  by_cases q0 : left - ((lsz size_Srv) x.servers : Nat) < 0
  · have s0 := Lib.hid (szN_neg q0)
    have Q0 := Lib.hid q0
    refine (szServerS _ _ _ _ (Sl.agree good_Srv H_servers.out (agree_below (B := w.heap.size) ((Below.refl _ _).alloc (Nat.le_refl _) _) (Sl.lt good_Srv H_servers.out))) _ (by omega) (by omega)).mono ?_
    rintro e w1 ⟨rfl, hb⟩
    rw [s0.out]
    have hB1 : Below w.heap.size w w1 := ((Below.refl _ _).alloc (Nat.le_refl _) _).trans (hb.mono (by simp))
    have k1 := blk hb (alloc_top (k := w.heap.size) rfl)
    have c1 := cellB k1; have K1 := Lib.hid k1; clear k1 hb
    clear q0
    go_wp2
    go_ret
    exact ⟨ret_int (szN_neg (by have := Q0.out; unfold size_Wld; omega)), hB1⟩
  · have s0 := Lib.hid (szN_pos q0)
    have q0' : 0 ≤ left - ((lsz size_Srv) x.servers : Nat) := by omega
    refine (szServerS _ _ _ _ (Sl.agree good_Srv H_servers.out (agree_below (B := w.heap.size) ((Below.refl _ _).alloc (Nat.le_refl _) _) (Sl.lt good_Srv H_servers.out))) _ (by omega) (by omega)).mono ?_
    rintro e w1 ⟨rfl, hb⟩
    rw [s0.out]
    have hB1 : Below w.heap.size w w1 := ((Below.refl _ _).alloc (Nat.le_refl _) _).trans (hb.mono (by simp))
    have k1 := blk hb (alloc_top (k := w.heap.size) rfl)
    have c1 := cellB k1; have K1 := Lib.hid k1; clear k1 hb
    clear q0
    go_wp2_with fail
    by_cases q1 : left - ((lsz size_Srv) x.servers : Nat) - ((lsz size_Dev) x.devices : Nat) < 0
    · have s1 := Lib.hid (szN_neg q1)
      have Q1 := Lib.hid q1
      refine (szDeviceS _ _ _ _ (Sl.agree good_Dev H_devices.out (agree_below hB1 (Sl.lt good_Dev H_devices.out))) _ (by omega) (by omega)).mono ?_
      rintro e w2 ⟨rfl, hb⟩
      rw [s1.out]
      have hB2 : Below w.heap.size w w2 := hB1.trans (hb.mono hB1.size)
      have k2 := blk hb K1.out
      have c2 := cellB k2; have K2 := Lib.hid k2; clear k2 hb c1
      clear q1
      go_wp2
      go_ret
      exact ⟨ret_int (szN_neg (by have := Q1.out; unfold size_Wld; omega)), hB2⟩
    · have s1 := Lib.hid (szN_pos q1)
      have q1' : 0 ≤ left - ((lsz size_Srv) x.servers : Nat) - ((lsz size_Dev) x.devices : Nat) := by omega
      refine (szDeviceS _ _ _ _ (Sl.agree good_Dev H_devices.out (agree_below hB1 (Sl.lt good_Dev H_devices.out))) _ (by omega) (by omega)).mono ?_
      rintro e w2 ⟨rfl, hb⟩
      rw [s1.out]
      have hB2 : Below w.heap.size w w2 := hB1.trans (hb.mono hB1.size)
      have k2 := blk hb K1.out
      have c2 := cellB k2; have K2 := Lib.hid k2; clear k2 hb c1
      clear q1
      go_wp2_with fail
      by_cases q2 : left - ((lsz size_Srv) x.servers : Nat) - ((lsz size_Dev) x.devices : Nat) - (size_Arc x.archive : Nat) < 0
      · have s2 := Lib.hid (szN_neg q2)
        have Q2 := Lib.hid q2
        refine (szArchive _ _ _ _ (good_Arc.agree H_archive.out (agree_below hB2 (good_Arc.lt H_archive.out))) _ (by omega) (by omega)).mono ?_
        rintro e w3 ⟨rfl, hb⟩
        rw [s2.out]
        have hB3 : Below w.heap.size w w3 := hB2.trans (hb.mono hB2.size)
        have k3 := blk hb K2.out
        have c3 := cellB k3; have K3 := Lib.hid k3; clear k3 hb c2
        clear q2
        go_wp2
        go_ret
        exact ⟨ret_int (szN_neg (by have := Q2.out; unfold size_Wld; omega)), hB3⟩
      · have s2 := Lib.hid (szN_pos q2)
        have q2' : 0 ≤ left - ((lsz size_Srv) x.servers : Nat) - ((lsz size_Dev) x.devices : Nat) - (size_Arc x.archive : Nat) := by omega
        refine (szArchive _ _ _ _ (good_Arc.agree H_archive.out (agree_below hB2 (good_Arc.lt H_archive.out))) _ (by omega) (by omega)).mono ?_
        rintro e w3 ⟨rfl, hb⟩
        rw [s2.out]
        have hB3 : Below w.heap.size w w3 := hB2.trans (hb.mono hB2.size)
        have k3 := blk hb K2.out
        have c3 := cellB k3; have K3 := Lib.hid k3; clear k3 hb c2
        clear q2
        go_wp2_with fail
        by_cases q3 : left - ((lsz size_Srv) x.servers : Nat) - ((lsz size_Dev) x.devices : Nat) - (size_Arc x.archive : Nat) - (List.length x.replaced : Nat) < 0
        · have s3 := Lib.hid (szN_neg q3)
          have Q3 := Lib.hid q3
          refine (szIntS _ _ _ _ (Sl.agree good_int H_replaced.out (agree_below hB3 (Sl.lt good_int H_replaced.out))) _ (by omega) (by omega)).mono ?_
          rintro e w4 ⟨rfl, hb⟩
          rw [s3.out]
          have hB4 : Below w.heap.size w w4 := hB3.trans (hb.mono hB3.size)
          have k4 := blk hb K3.out
          have c4 := cellB k4; have K4 := Lib.hid k4; clear k4 hb c3
          clear q3
          go_wp2
          go_ret
          exact ⟨ret_int (szN_neg (by have := Q3.out; unfold size_Wld; omega)), hB4⟩
        · have s3 := Lib.hid (szN_pos q3)
          have q3' : 0 ≤ left - ((lsz size_Srv) x.servers : Nat) - ((lsz size_Dev) x.devices : Nat) - (size_Arc x.archive : Nat) - (List.length x.replaced : Nat) := by omega
          refine (szIntS _ _ _ _ (Sl.agree good_int H_replaced.out (agree_below hB3 (Sl.lt good_int H_replaced.out))) _ (by omega) (by omega)).mono ?_
          rintro e w4 ⟨rfl, hb⟩
          rw [s3.out]
          have hB4 : Below w.heap.size w w4 := hB3.trans (hb.mono hB3.size)
          have k4 := blk hb K3.out
          have c4 := cellB k4; have K4 := Lib.hid k4; clear k4 hb c3
          clear q3
          go_wp2
          go_ret
          exact ⟨ret_int (by unfold size_Wld; rw [szN_pos] <;> omega), hB4⟩

end Go.Proofs.Ytfiaikmlnemnfaa.C
