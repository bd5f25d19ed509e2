/-
  Contracts of the laws own functions: equalities.
-/
import Derived.Test.YtfiaikmlnemnfaaC0
namespace Go.Proofs.Ytfiaikmlnemnfaa.C
open Go.RowKit L D

set_option maxHeartbeats 400000 in
set_option maxRecDepth 100000 in
theorem eqByteS (w : World) (v1 v2 : Value) (l : (List UInt8)) (fp1 fp2 : List Nat) (h1 : Sl 1 EU8 w v1 l fp1) (h2 : Sl 1 EU8 w v2 l fp2) :
    Calls Try.prog 78 #[v1, v2] w (Gives w (.bool true)) := by
  have HX1 := Lib.hid h1
  have HX2 := Lib.hid h2
  obtain ⟨oa1, cap1, rfl, hc1, hm1, _⟩ := h1
  obtain ⟨oa2, cap2, rfl, hc2, hm2, _⟩ := h2
  obtain ⟨n, hl⟩ : ∃ n, n = l.length := ⟨_, rfl⟩
  rw [← hl] at hc1 hc2 HX1 HX2
  have HL := Lib.hid hl
  rw [← hl]
  clear hl
  unfold maxLen at hm1 hm2
  go_enter Try.func78, Try.ntmps78
  go_wp2_with fail
  go_loopw [5] (fun i wr => ∃ k : Nat, k ≤ n ∧ i = .int .i64 k ∧ Below w.heap.size w wr) (fun i _ => n - (intOf i).toNat)
  case atStart => exact ⟨0, by omega, rfl, Below.refl _ _⟩
  case round =>
    obtain ⟨k, hk, rfl, hb⟩ := hrel
    by_cases hk2 : k < n
    · obtain ⟨x, hx⟩ := getE (l := l) (k := k) (by have := HL.out; omega)
      obtain ⟨b1, off1, f1, cs1, rfl, hr1, hE1, _⟩ := (Sl.below good_u8 HX1.out hb).at hx
      obtain ⟨b2, off2, f2, cs2, rfl, hr2, hE2, _⟩ := (Sl.below good_u8 HX2.out hb).at hx
      clear hx
      obtain ⟨rfl, rfl⟩ := hE1
      obtain ⟨rfl, rfl⟩ := hE2
      have hc1 : wr.cell? ⟨b1, off1 + k, none⟩ = some (.int .u8 x.toNat) := by have := hr1 0 _ rfl; simpa using this
      have hc2 : wr.cell? ⟨b2, off2 + k, none⟩ = some (.int .u8 x.toNat) := by have := hr2 0 _ rfl; simpa using this
      have hk3 : (k : Int) < n := by omega
      clear hr1 hr2
      go_wp2_with fail
      go_quiet (fail)
      go_wp2
      go_roundw
      case rel => exact ⟨k + 1, by omega, by go_num, Below.trans hb ⟨rfl, rfl, rfl, Nat.le_refl _, fun _ _ => rfl⟩⟩
      case measure => simp [intOf]; omega
    · go_wp2
      go_ret
      exact ⟨rfl, hb⟩


set_option maxHeartbeats 400000 in
set_option maxRecDepth 100000 in
theorem eqIntS (w : World) (v1 v2 : Value) (l : (List Int)) (fp1 fp2 : List Nat) (h1 : Sl 1 EInt w v1 l fp1) (h2 : Sl 1 EInt w v2 l fp2) :
    Calls Try.prog 36 #[v1, v2] w (Gives w (.bool true)) := by
  have HX1 := Lib.hid h1
  have HX2 := Lib.hid h2
  obtain ⟨oa1, cap1, rfl, hc1, hm1, _⟩ := h1
  obtain ⟨oa2, cap2, rfl, hc2, hm2, _⟩ := h2
  obtain ⟨n, hl⟩ : ∃ n, n = l.length := ⟨_, rfl⟩
  rw [← hl] at hc1 hc2 HX1 HX2
  have HL := Lib.hid hl
  rw [← hl]
  clear hl
  unfold maxLen at hm1 hm2
  go_enter Try.func36, Try.ntmps36
  go_wp2_with fail
  go_loopw [5] (fun i wr => ∃ k : Nat, k ≤ n ∧ i = .int .i64 k ∧ Below w.heap.size w wr) (fun i _ => n - (intOf i).toNat)
  case atStart => exact ⟨0, by omega, rfl, Below.refl _ _⟩
  case round =>
    obtain ⟨k, hk, rfl, hb⟩ := hrel
    by_cases hk2 : k < n
    · obtain ⟨x, hx⟩ := getE (l := l) (k := k) (by have := HL.out; omega)
      obtain ⟨b1, off1, f1, cs1, rfl, hr1, hE1, _⟩ := (Sl.below good_int HX1.out hb).at hx
      obtain ⟨b2, off2, f2, cs2, rfl, hr2, hE2, _⟩ := (Sl.below good_int HX2.out hb).at hx
      clear hx
      obtain ⟨rfl, rfl⟩ := hE1
      obtain ⟨rfl, rfl⟩ := hE2
      have hc1 : wr.cell? ⟨b1, off1 + k, none⟩ = some (.int .i64 x) := by have := hr1 0 _ rfl; simpa using this
      have hc2 : wr.cell? ⟨b2, off2 + k, none⟩ = some (.int .i64 x) := by have := hr2 0 _ rfl; simpa using this
      have hk3 : (k : Int) < n := by omega
      clear hr1 hr2
      go_wp2_with fail
      go_quiet (fail)
      go_wp2
      go_roundw
      case rel => exact ⟨k + 1, by omega, by go_num, Below.trans hb ⟨rfl, rfl, rfl, Nat.le_refl _, fun _ _ => rfl⟩⟩
      case measure => simp [intOf]; omega
    · go_wp2
      go_ret
      exact ⟨rfl, hb⟩


set_option maxHeartbeats 400000 in
set_option maxRecDepth 100000 in
theorem eqByteSS (w : World) (v1 v2 : Value) (l : (List (List UInt8))) (fp1 fp2 : List Nat) (h1 : Sl 1 (ESl 1 EU8) w v1 l fp1) (h2 : Sl 1 (ESl 1 EU8) w v2 l fp2) :
    Calls Try.prog 42 #[v1, v2] w (Gives w (.bool true)) := by
  have HX1 := Lib.hid h1
  have HX2 := Lib.hid h2
  obtain ⟨oa1, cap1, rfl, hc1, hm1, _⟩ := h1
  obtain ⟨oa2, cap2, rfl, hc2, hm2, _⟩ := h2
  obtain ⟨n, hl⟩ : ∃ n, n = l.length := ⟨_, rfl⟩
  rw [← hl] at hc1 hc2 HX1 HX2
  have HL := Lib.hid hl
  rw [← hl]
  clear hl
  unfold maxLen at hm1 hm2
  go_enter Try.func42, Try.ntmps42
  go_wp2_with fail
  go_loopw [5] (fun i wr => ∃ k : Nat, k ≤ n ∧ i = .int .i64 k ∧ Below w.heap.size w wr) (fun i _ => n - (intOf i).toNat)
  case atStart => exact ⟨0, by omega, rfl, Below.refl _ _⟩
  case round =>
    obtain ⟨k, hk, rfl, hb⟩ := hrel
    by_cases hk2 : k < n
    · obtain ⟨x, hx⟩ := getE (l := l) (k := k) (by have := HL.out; omega)
      obtain ⟨b1, off1, f1, cs1, rfl, hr1, hE1, _⟩ := (Sl.below (good_sl good_u8) HX1.out hb).at hx
      obtain ⟨b2, off2, f2, cs2, rfl, hr2, hE2, _⟩ := (Sl.below (good_sl good_u8) HX2.out hb).at hx
      clear hx
      obtain ⟨ve1, rfl, hE1⟩ := hE1
      obtain ⟨ve2, rfl, hE2⟩ := hE2
      have hc1 : wr.cell? ⟨b1, off1 + k, none⟩ = some ve1 := by have := hr1 0 _ rfl; simpa using this
      have hc2 : wr.cell? ⟨b2, off2 + k, none⟩ = some ve2 := by have := hr2 0 _ rfl; simpa using this
      have HE1 := Lib.hid hE1
      have HE2 := Lib.hid hE2
      clear hr1 hr2 hE1 hE2
      go_wp2_with fail
      refine wp_region_still_tail 8 (by kernel_rfl) (by kernel_rfl) ?_
      simp only [List.take_succ_cons, List.take_zero, List.drop_succ_cons, List.drop_zero]
      still_step
      still_step
      still_step
      still_step
      still_step
      still_step
      still_step
      still_step
      refine wpStill_nil ?_
      change wpList _ _ _ _ _ wr.drew
      go_wp2_with fail
      refine (eqByteS _ _ _ _ _ _ (Sl.drew good_u8 HE1.out) (Sl.drew good_u8 HE2.out)).mono ?_
      rintro e w1 ⟨rfl, hb1⟩
      have hb2 : Below w.heap.size w w1 := (hb.drew).trans (hb1.mono hb.size)
      clear hb1 hb HE1 HE2
      go_wp2
      go_roundw
      case rel => exact ⟨k + 1, by omega, by go_num, hb2⟩
      case measure => simp [intOf]; omega
    · go_wp2
      go_ret
      exact ⟨rfl, hb⟩


set_option maxHeartbeats 800000 in
set_option maxRecDepth 100000 in
theorem eqDatabase (w : World) (cs1 cs2 : List Value) (x : DB) (fp1 fp2 : List Nat) (hx1 : EDB w cs1 x fp1) (hx2 : EDB w cs2 x fp2) :
    Calls Try.prog 170 #[.agg cs1.toArray, .agg cs2.toArray] w (Gives w (.bool true)) := by
  obtain ⟨v1_rows, f1_rows, rfl, h1_rows, rfl⟩ := hx1
  obtain ⟨v2_rows, f2_rows, rfl, h2_rows, rfl⟩ := hx2
  have H1_rows := Lib.hid h1_rows
  have H2_rows := Lib.hid h2_rows
  clear h1_rows h2_rows
  go_enter Try.func170, Try.ntmps170
  go_wp2_with fail
  refine (eqByteSS _ _ _ _ _ _ (Sl.agree (good_sl good_u8) H1_rows.out (agree_below (B := w.heap.size) (by repeat (first | with_reducible exact Below.refl _ _ | refine Below.alloc ?_ (by simp <;> omega) _)) (Sl.lt (good_sl good_u8) H1_rows.out))) (Sl.agree (good_sl good_u8) H2_rows.out (agree_below (B := w.heap.size) (by repeat (first | with_reducible exact Below.refl _ _ | refine Below.alloc ?_ (by simp <;> omega) _)) (Sl.lt (good_sl good_u8) H2_rows.out)))).mono ?_
  rintro e w1 ⟨rfl, hb⟩
  have k0 : w1.heap[w.heap.size]? = some (.cells #[v1_rows] 71 (0, 0)) := blk hb (alloc_old (alloc_top rfl))
  have k1 : w1.heap[w.heap.size + 1]? = some (.cells #[v2_rows] 71 (0, 0)) := blk hb (alloc_top (by simp))
  have hB1 : Below w.heap.size w w1 := Below.trans (by repeat (first | with_reducible exact Below.refl _ _ | refine Below.alloc ?_ (by simp <;> omega) _)) (hb.mono (by simp <;> omega))
  have c0 := cellB k0; have c1 := cellB k1; have K0 := Lib.hid k0; have K1 := Lib.hid k1; clear k0 k1 hb
  go_wp2
  go_ret
  exact ⟨rfl, hB1⟩


set_option maxHeartbeats 800000 in
set_option maxRecDepth 100000 in
theorem eqReceivedShare (w : World) (cs1 cs2 : List Value) (x : RShare) (fp1 fp2 : List Nat) (hx1 : ERShare w cs1 x fp1) (hx2 : ERShare w cs2 x fp2) :
    Calls Try.prog 169 #[.agg cs1.toArray, .agg cs2.toArray] w (Gives w (.bool true)) := by
  obtain ⟨_, _, rfl, ⟨v1_share_rows, f1_share_rows, rfl, h1_share_rows, rfl⟩, rfl⟩ := hx1
  obtain ⟨_, _, rfl, ⟨v2_share_rows, f2_share_rows, rfl, h2_share_rows, rfl⟩, rfl⟩ := hx2
  have H1_share : Hid (EDB w [v1_share_rows] x.share _) := Lib.hid ⟨_, _, rfl, h1_share_rows, rfl⟩
  have H2_share : Hid (EDB w [v2_share_rows] x.share _) := Lib.hid ⟨_, _, rfl, h2_share_rows, rfl⟩
  clear h1_share_rows h2_share_rows
  go_enter Try.func169, Try.ntmps169
  go_wp2_with fail
  refine (eqDatabase _ _ _ _ _ _ (good_DB.agree H1_share.out (agree_below (B := w.heap.size) (by repeat (first | with_reducible exact Below.refl _ _ | refine Below.alloc ?_ (by simp <;> omega) _)) (good_DB.lt H1_share.out))) (good_DB.agree H2_share.out (agree_below (B := w.heap.size) (by repeat (first | with_reducible exact Below.refl _ _ | refine Below.alloc ?_ (by simp <;> omega) _)) (good_DB.lt H2_share.out)))).mono ?_
  rintro e w1 ⟨rfl, hb⟩
  have k0 : w1.heap[w.heap.size]? = some (.cells #[.int .i64 x.client, v1_share_rows] 144 (0, 0)) := blk hb (alloc_old (alloc_top rfl))
  have k1 : w1.heap[w.heap.size + 1]? = some (.cells #[.int .i64 x.client, v2_share_rows] 144 (0, 0)) := blk hb (alloc_top (by simp))
  have hB1 : Below w.heap.size w w1 := Below.trans (by repeat (first | with_reducible exact Below.refl _ _ | refine Below.alloc ?_ (by simp <;> omega) _)) (hb.mono (by simp <;> omega))
  have c0 := cellB k0; have c1 := cellB k1; have K0 := Lib.hid k0; have K1 := Lib.hid k1; clear k0 k1 hb
  go_wp2
  go_ret
  exact ⟨rfl, hB1⟩


set_option maxHeartbeats 400000 in
set_option maxRecDepth 100000 in
theorem eqReceivedShareS (w : World) (v1 v2 : Value) (l : (List RShare)) (fp1 fp2 : List Nat) (h1 : Sl 2 ERShare w v1 l fp1) (h2 : Sl 2 ERShare w v2 l fp2) :
    Calls Try.prog 136 #[v1, v2] w (Gives w (.bool true)) := by
  have HX1 := Lib.hid h1
  have HX2 := Lib.hid h2
  obtain ⟨oa1, cap1, rfl, hc1, hm1, _⟩ := h1
  obtain ⟨oa2, cap2, rfl, hc2, hm2, _⟩ := h2
  obtain ⟨n, hl⟩ : ∃ n, n = l.length := ⟨_, rfl⟩
  rw [← hl] at hc1 hc2 HX1 HX2
  have HL := Lib.hid hl
  rw [← hl]
  clear hl
  unfold maxLen at hm1 hm2
  go_enter Try.func136, Try.ntmps136
  go_wp2_with fail
  go_loopw [5] (fun i wr => ∃ k : Nat, k ≤ n ∧ i = .int .i64 k ∧ Below w.heap.size w wr) (fun i _ => n - (intOf i).toNat)
  case atStart => exact ⟨0, by omega, rfl, Below.refl _ _⟩
  case round =>
    obtain ⟨k, hk, rfl, hb⟩ := hrel
    by_cases hk2 : k < n
    · obtain ⟨x, hx⟩ := getE (l := l) (k := k) (by have := HL.out; omega)
      obtain ⟨b1, off1, f1, cs1, rfl, hr1, hE1, _⟩ := (Sl.below good_RShare HX1.out hb).at hx
      obtain ⟨b2, off2, f2, cs2, rfl, hr2, hE2, _⟩ := (Sl.below good_RShare HX2.out hb).at hx
      clear hx
      have HR1 := Lib.hid hr1
      have HR2 := Lib.hid hr2
      have HS1 := Lib.hid (good_RShare.len hE1)
      have HS2 := Lib.hid (good_RShare.len hE2)
      have HE1 := Lib.hid hE1
      have HE2 := Lib.hid hE2
      clear hr1 hr2 hE1 hE2
      go_wp2_with fail
      refine wp_region_still_tail 8 (by kernel_rfl) (by kernel_rfl) ?_
      simp only [List.take_succ_cons, List.take_zero, List.drop_succ_cons, List.drop_zero]
      still_step
      still_step
      still_step
      refine wpStill_step (fun K hK => ?_); refine still_ld row_RShare_impl HR1.out HS1.out rfl rfl ?_; refine hK _ ?_; clear hK K
      still_step
      still_step
      still_step
      refine wpStill_step (fun K hK => ?_); refine still_ld row_RShare_impl HR2.out HS2.out rfl rfl ?_; refine hK _ ?_; clear hK K
      refine wpStill_nil ?_
      change wpList _ _ _ _ _ wr.drew
      go_wp2_with fail
      refine (eqReceivedShare _ _ _ _ _ _ (good_RShare.drew HE1.out) (good_RShare.drew HE2.out)).mono ?_
      rintro e w1 ⟨rfl, hb1⟩
      have hb2 : Below w.heap.size w w1 := (hb.drew).trans (hb1.mono hb.size)
      clear hb1 hb HE1 HE2
      go_wp2
      go_roundw
      case rel => exact ⟨k + 1, by omega, by go_num, hb2⟩
      case measure => simp [intOf]; omega
    · go_wp2
      go_ret
      exact ⟨rfl, hb⟩


set_option maxHeartbeats 800000 in
set_option maxRecDepth 100000 in
theorem eqServer (w : World) (cs1 cs2 : List Value) (x : Srv) (fp1 fp2 : List Nat) (hx1 : ESrv w cs1 x fp1) (hx2 : ESrv w cs2 x fp2) :
    Calls Try.prog 99 #[.agg cs1.toArray, .agg cs2.toArray] w (Gives w (.bool true)) := by
  obtain ⟨v1_received, f1_received, rfl, h1_received, rfl⟩ := hx1
  obtain ⟨v2_received, f2_received, rfl, h2_received, rfl⟩ := hx2
  have H1_received := Lib.hid h1_received
  have H2_received := Lib.hid h2_received
  clear h1_received h2_received
  go_enter Try.func99, Try.ntmps99
  go_wp2_with fail
  refine (eqReceivedShareS _ _ _ _ _ _ (Sl.agree good_RShare H1_received.out (agree_below (B := w.heap.size) (by repeat (first | with_reducible exact Below.refl _ _ | refine Below.alloc ?_ (by simp <;> omega) _)) (Sl.lt good_RShare H1_received.out))) (Sl.agree good_RShare H2_received.out (agree_below (B := w.heap.size) (by repeat (first | with_reducible exact Below.refl _ _ | refine Below.alloc ?_ (by simp <;> omega) _)) (Sl.lt good_RShare H2_received.out)))).mono ?_
  rintro e w1 ⟨rfl, hb⟩
  have k0 : w1.heap[w.heap.size]? = some (.cells #[.int .i64 x.id, .int .i64 x.rows, .int .i64 x.round, v1_received, .int .i64 x.behavior] 81 (0, 0)) := blk hb (alloc_old (alloc_top rfl))
  have k1 : w1.heap[w.heap.size + 1]? = some (.cells #[.int .i64 x.id, .int .i64 x.rows, .int .i64 x.round, v2_received, .int .i64 x.behavior] 81 (0, 0)) := blk hb (alloc_top (by simp))
  have hB1 : Below w.heap.size w w1 := Below.trans (by repeat (first | with_reducible exact Below.refl _ _ | refine Below.alloc ?_ (by simp <;> omega) _)) (hb.mono (by simp <;> omega))
  have c0 := cellB k0; have c1 := cellB k1; have K0 := Lib.hid k0; have K1 := Lib.hid k1; clear k0 k1 hb
  go_wp2
  go_ret
  exact ⟨rfl, hB1⟩


set_option maxHeartbeats 800000 in
set_option maxRecDepth 100000 in
theorem eqArchivedRound (w : World) (cs1 cs2 : List Value) (x : ARound) (fp1 fp2 : List Nat) (hx1 : EARound w cs1 x fp1) (hx2 : EARound w cs2 x fp2) :
    Calls Try.prog 138 #[.agg cs1.toArray, .agg cs2.toArray] w (Gives w (.bool true)) := by
  obtain ⟨_, _, rfl, ⟨v1_db_rows, f1_db_rows, rfl, h1_db_rows, rfl⟩, rfl⟩ := hx1
  obtain ⟨_, _, rfl, ⟨v2_db_rows, f2_db_rows, rfl, h2_db_rows, rfl⟩, rfl⟩ := hx2
  have H1_db : Hid (EDB w [v1_db_rows] x.db _) := Lib.hid ⟨_, _, rfl, h1_db_rows, rfl⟩
  have H2_db : Hid (EDB w [v2_db_rows] x.db _) := Lib.hid ⟨_, _, rfl, h2_db_rows, rfl⟩
  clear h1_db_rows h2_db_rows
  go_enter Try.func138, Try.ntmps138
  go_wp2_with fail
  refine (eqDatabase _ _ _ _ _ _ (good_DB.agree H1_db.out (agree_below (B := w.heap.size) (by repeat (first | with_reducible exact Below.refl _ _ | refine Below.alloc ?_ (by simp <;> omega) _)) (good_DB.lt H1_db.out))) (good_DB.agree H2_db.out (agree_below (B := w.heap.size) (by repeat (first | with_reducible exact Below.refl _ _ | refine Below.alloc ?_ (by simp <;> omega) _)) (good_DB.lt H2_db.out)))).mono ?_
  rintro e w1 ⟨rfl, hb⟩
  have k0 : w1.heap[w.heap.size]? = some (.cells #[.int .i64 x.round, v1_db_rows] 73 (0, 0)) := blk hb (alloc_old (alloc_top rfl))
  have k1 : w1.heap[w.heap.size + 1]? = some (.cells #[.int .i64 x.round, v2_db_rows] 73 (0, 0)) := blk hb (alloc_top (by simp))
  have hB1 : Below w.heap.size w w1 := Below.trans (by repeat (first | with_reducible exact Below.refl _ _ | refine Below.alloc ?_ (by simp <;> omega) _)) (hb.mono (by simp <;> omega))
  have c0 := cellB k0; have c1 := cellB k1; have K0 := Lib.hid k0; have K1 := Lib.hid k1; clear k0 k1 hb
  go_wp2
  go_ret
  exact ⟨rfl, hB1⟩


set_option maxHeartbeats 400000 in
set_option maxRecDepth 100000 in
theorem eqArchivedRoundS (w : World) (v1 v2 : Value) (l : (List ARound)) (fp1 fp2 : List Nat) (h1 : Sl 2 EARound w v1 l fp1) (h2 : Sl 2 EARound w v2 l fp2) :
    Calls Try.prog 101 #[v1, v2] w (Gives w (.bool true)) := by
  have HX1 := Lib.hid h1
  have HX2 := Lib.hid h2
  obtain ⟨oa1, cap1, rfl, hc1, hm1, _⟩ := h1
  obtain ⟨oa2, cap2, rfl, hc2, hm2, _⟩ := h2
  obtain ⟨n, hl⟩ : ∃ n, n = l.length := ⟨_, rfl⟩
  rw [← hl] at hc1 hc2 HX1 HX2
  have HL := Lib.hid hl
  rw [← hl]
  clear hl
  unfold maxLen at hm1 hm2
  go_enter Try.func101, Try.ntmps101
  go_wp2_with fail
  go_loopw [5] (fun i wr => ∃ k : Nat, k ≤ n ∧ i = .int .i64 k ∧ Below w.heap.size w wr) (fun i _ => n - (intOf i).toNat)
  case atStart => exact ⟨0, by omega, rfl, Below.refl _ _⟩
  case round =>
    obtain ⟨k, hk, rfl, hb⟩ := hrel
    by_cases hk2 : k < n
    · obtain ⟨x, hx⟩ := getE (l := l) (k := k) (by have := HL.out; omega)
      obtain ⟨b1, off1, f1, cs1, rfl, hr1, hE1, _⟩ := (Sl.below good_ARound HX1.out hb).at hx
      obtain ⟨b2, off2, f2, cs2, rfl, hr2, hE2, _⟩ := (Sl.below good_ARound HX2.out hb).at hx
      clear hx
      have HR1 := Lib.hid hr1
      have HR2 := Lib.hid hr2
      have HS1 := Lib.hid (good_ARound.len hE1)
      have HS2 := Lib.hid (good_ARound.len hE2)
      have HE1 := Lib.hid hE1
      have HE2 := Lib.hid hE2
      clear hr1 hr2 hE1 hE2
      go_wp2_with fail
      refine wp_region_still_tail 8 (by kernel_rfl) (by kernel_rfl) ?_
      simp only [List.take_succ_cons, List.take_zero, List.drop_succ_cons, List.drop_zero]
      still_step
      still_step
      still_step
      refine wpStill_step (fun K hK => ?_); refine still_ld row_ARound_impl HR1.out HS1.out rfl rfl ?_; refine hK _ ?_; clear hK K
      still_step
      still_step
      still_step
      refine wpStill_step (fun K hK => ?_); refine still_ld row_ARound_impl HR2.out HS2.out rfl rfl ?_; refine hK _ ?_; clear hK K
      refine wpStill_nil ?_
      change wpList _ _ _ _ _ wr.drew
      go_wp2_with fail
      refine (eqArchivedRound _ _ _ _ _ _ (good_ARound.drew HE1.out) (good_ARound.drew HE2.out)).mono ?_
      rintro e w1 ⟨rfl, hb1⟩
      have hb2 : Below w.heap.size w w1 := (hb.drew).trans (hb1.mono hb.size)
      clear hb1 hb HE1 HE2
      go_wp2
      go_roundw
      case rel => exact ⟨k + 1, by omega, by go_num, hb2⟩
      case measure => simp [intOf]; omega
    · go_wp2
      go_ret
      exact ⟨rfl, hb⟩


set_option maxHeartbeats 800000 in
set_option maxRecDepth 100000 in
theorem eqArchive (w : World) (cs1 cs2 : List Value) (x : Arc) (fp1 fp2 : List Nat) (hx1 : EArc w cs1 x fp1) (hx2 : EArc w cs2 x fp2) :
    Calls Try.prog 59 #[.agg cs1.toArray, .agg cs2.toArray] w (Gives w (.bool true)) := by
  obtain ⟨v1_rounds, f1_rounds, rfl, h1_rounds, rfl⟩ := hx1
  obtain ⟨v2_rounds, f2_rounds, rfl, h2_rounds, rfl⟩ := hx2
  have H1_rounds := Lib.hid h1_rounds
  have H2_rounds := Lib.hid h2_rounds
  clear h1_rounds h2_rounds
  go_enter Try.func59, Try.ntmps59
  go_wp2_with fail
  refine (eqArchivedRoundS _ _ _ _ _ _ (Sl.agree good_ARound H1_rounds.out (agree_below (B := w.heap.size) (by repeat (first | with_reducible exact Below.refl _ _ | refine Below.alloc ?_ (by simp <;> omega) _)) (Sl.lt good_ARound H1_rounds.out))) (Sl.agree good_ARound H2_rounds.out (agree_below (B := w.heap.size) (by repeat (first | with_reducible exact Below.refl _ _ | refine Below.alloc ?_ (by simp <;> omega) _)) (Sl.lt good_ARound H2_rounds.out)))).mono ?_
  rintro e w1 ⟨rfl, hb⟩
  have k0 : w1.heap[w.heap.size]? = some (.cells #[.int .i64 x.rows, v1_rounds] 36 (0, 0)) := blk hb (alloc_old (alloc_top rfl))
  have k1 : w1.heap[w.heap.size + 1]? = some (.cells #[.int .i64 x.rows, v2_rounds] 36 (0, 0)) := blk hb (alloc_top (by simp))
  have hB1 : Below w.heap.size w w1 := Below.trans (by repeat (first | with_reducible exact Below.refl _ _ | refine Below.alloc ?_ (by simp <;> omega) _)) (hb.mono (by simp <;> omega))
  have c0 := cellB k0; have c1 := cellB k1; have K0 := Lib.hid k0; have K1 := Lib.hid k1; clear k0 k1 hb
  go_wp2
  go_ret
  exact ⟨rfl, hB1⟩


set_option maxHeartbeats 800000 in
set_option maxRecDepth 100000 in
theorem eqClient (w : World) (cs1 cs2 : List Value) (x : Cli) (fp1 fp2 : List Nat) (hx1 : ECli w cs1 x fp1) (hx2 : ECli w cs2 x fp2) :
    Calls Try.prog 137 #[.agg cs1.toArray, .agg cs2.toArray] w (Gives w (.bool true)) := by
  obtain ⟨v1_submitted, v1_inbox, f1_submitted, f1_inbox, rfl, h1_submitted, h1_inbox, rfl⟩ := hx1
  obtain ⟨v2_submitted, v2_inbox, f2_submitted, f2_inbox, rfl, h2_submitted, h2_inbox, rfl⟩ := hx2
  have H1_submitted := Lib.hid h1_submitted
  have H1_inbox := Lib.hid h1_inbox
  have H2_submitted := Lib.hid h2_submitted
  have H2_inbox := Lib.hid h2_inbox
  clear h1_submitted h1_inbox h2_submitted h2_inbox
  go_enter Try.func137, Try.ntmps137
  go_wp2_with fail
  refine (eqByteSS _ _ _ _ _ _ (Sl.agree (good_sl good_u8) H1_submitted.out (agree_below (B := w.heap.size) (by repeat (first | with_reducible exact Below.refl _ _ | refine Below.alloc ?_ (by simp <;> omega) _)) (Sl.lt (good_sl good_u8) H1_submitted.out))) (Sl.agree (good_sl good_u8) H2_submitted.out (agree_below (B := w.heap.size) (by repeat (first | with_reducible exact Below.refl _ _ | refine Below.alloc ?_ (by simp <;> omega) _)) (Sl.lt (good_sl good_u8) H2_submitted.out)))).mono ?_
  rintro e w1 ⟨rfl, hb⟩
  have k0 : w1.heap[w.heap.size]? = some (.cells #[.int .i64 x.id, .int .i64 x.friend, .int .i64 x.key, .int .i64 x.seed, v1_submitted, .int .i64 x.sent, v1_inbox, .int .i64 x.next] 66 (0, 0)) := blk hb (alloc_old (alloc_top rfl))
  have k1 : w1.heap[w.heap.size + 1]? = some (.cells #[.int .i64 x.id, .int .i64 x.friend, .int .i64 x.key, .int .i64 x.seed, v2_submitted, .int .i64 x.sent, v2_inbox, .int .i64 x.next] 66 (0, 0)) := blk hb (alloc_top (by simp))
  have hB1 : Below w.heap.size w w1 := Below.trans (by repeat (first | with_reducible exact Below.refl _ _ | refine Below.alloc ?_ (by simp <;> omega) _)) (hb.mono (by simp <;> omega))
  have c0 := cellB k0; have c1 := cellB k1; have K0 := Lib.hid k0; have K1 := Lib.hid k1; clear k0 k1 hb
  go_wp2_with fail
  refine (eqByteSS _ _ _ _ _ _ (Sl.agree (good_sl good_u8) H1_inbox.out (agree_below (B := w.heap.size) hB1 (Sl.lt (good_sl good_u8) H1_inbox.out))) (Sl.agree (good_sl good_u8) H2_inbox.out (agree_below (B := w.heap.size) hB1 (Sl.lt (good_sl good_u8) H2_inbox.out)))).mono ?_
  rintro e w2 ⟨rfl, hb⟩
  have k0 := blk hb K0.out
  have k1 := blk hb K1.out
  have hB2 : Below w.heap.size w w2 := hB1.trans (hb.mono hB1.size)
  clear c0 c1
  have c0 := cellB k0; have c1 := cellB k1; have K0 := Lib.hid k0; have K1 := Lib.hid k1; clear k0 k1 hb
  go_wp2
  go_ret
  exact ⟨rfl, hB2⟩


set_option maxHeartbeats 800000 in
set_option maxRecDepth 100000 in
theorem eqDevice (w : World) (cs1 cs2 : List Value) (x : Dev) (fp1 fp2 : List Nat) (hx1 : EDev w cs1 x fp1) (hx2 : EDev w cs2 x fp2) :
    Calls Try.prog 100 #[.agg cs1.toArray, .agg cs2.toArray] w (Gives w (.bool true)) := by
  obtain ⟨_, _, _, _, rfl, ⟨v1_live_submitted, v1_live_inbox, f1_live_submitted, f1_live_inbox, rfl, h1_live_submitted, h1_live_inbox, rfl⟩, ⟨v1_saved_submitted, v1_saved_inbox, f1_saved_submitted, f1_saved_inbox, rfl, h1_saved_submitted, h1_saved_inbox, rfl⟩, rfl⟩ := hx1
  obtain ⟨_, _, _, _, rfl, ⟨v2_live_submitted, v2_live_inbox, f2_live_submitted, f2_live_inbox, rfl, h2_live_submitted, h2_live_inbox, rfl⟩, ⟨v2_saved_submitted, v2_saved_inbox, f2_saved_submitted, f2_saved_inbox, rfl, h2_saved_submitted, h2_saved_inbox, rfl⟩, rfl⟩ := hx2
  have H1_live : Hid (ECli w [.int .i64 x.live.id, .int .i64 x.live.friend, .int .i64 x.live.key, .int .i64 x.live.seed, v1_live_submitted, .int .i64 x.live.sent, v1_live_inbox, .int .i64 x.live.next] x.live _) := Lib.hid ⟨_, _, _, _, rfl, h1_live_submitted, h1_live_inbox, rfl⟩
  have H1_saved : Hid (ECli w [.int .i64 x.saved.id, .int .i64 x.saved.friend, .int .i64 x.saved.key, .int .i64 x.saved.seed, v1_saved_submitted, .int .i64 x.saved.sent, v1_saved_inbox, .int .i64 x.saved.next] x.saved _) := Lib.hid ⟨_, _, _, _, rfl, h1_saved_submitted, h1_saved_inbox, rfl⟩
  have H2_live : Hid (ECli w [.int .i64 x.live.id, .int .i64 x.live.friend, .int .i64 x.live.key, .int .i64 x.live.seed, v2_live_submitted, .int .i64 x.live.sent, v2_live_inbox, .int .i64 x.live.next] x.live _) := Lib.hid ⟨_, _, _, _, rfl, h2_live_submitted, h2_live_inbox, rfl⟩
  have H2_saved : Hid (ECli w [.int .i64 x.saved.id, .int .i64 x.saved.friend, .int .i64 x.saved.key, .int .i64 x.saved.seed, v2_saved_submitted, .int .i64 x.saved.sent, v2_saved_inbox, .int .i64 x.saved.next] x.saved _) := Lib.hid ⟨_, _, _, _, rfl, h2_saved_submitted, h2_saved_inbox, rfl⟩
  clear h1_live_submitted h1_live_inbox h1_saved_submitted h1_saved_inbox h2_live_submitted h2_live_inbox h2_saved_submitted h2_saved_inbox
  go_enter Try.func100, Try.ntmps100
  go_wp2_with fail
  refine (eqClient _ _ _ _ _ _ (good_Cli.agree H1_live.out (agree_below (B := w.heap.size) (by repeat (first | with_reducible exact Below.refl _ _ | refine Below.alloc ?_ (by simp <;> omega) _)) (good_Cli.lt H1_live.out))) (good_Cli.agree H2_live.out (agree_below (B := w.heap.size) (by repeat (first | with_reducible exact Below.refl _ _ | refine Below.alloc ?_ (by simp <;> omega) _)) (good_Cli.lt H2_live.out)))).mono ?_
  rintro e w1 ⟨rfl, hb⟩
  have k0 : w1.heap[w.heap.size]? = some (.cells #[.int .i64 x.live.id, .int .i64 x.live.friend, .int .i64 x.live.key, .int .i64 x.live.seed, v1_live_submitted, .int .i64 x.live.sent, v1_live_inbox, .int .i64 x.live.next, .int .i64 x.saved.id, .int .i64 x.saved.friend, .int .i64 x.saved.key, .int .i64 x.saved.seed, v1_saved_submitted, .int .i64 x.saved.sent, v1_saved_inbox, .int .i64 x.saved.next] 68 (0, 0)) := blk hb (alloc_old (alloc_top rfl))
  have k1 : w1.heap[w.heap.size + 1]? = some (.cells #[.int .i64 x.live.id, .int .i64 x.live.friend, .int .i64 x.live.key, .int .i64 x.live.seed, v2_live_submitted, .int .i64 x.live.sent, v2_live_inbox, .int .i64 x.live.next, .int .i64 x.saved.id, .int .i64 x.saved.friend, .int .i64 x.saved.key, .int .i64 x.saved.seed, v2_saved_submitted, .int .i64 x.saved.sent, v2_saved_inbox, .int .i64 x.saved.next] 68 (0, 0)) := blk hb (alloc_top (by simp))
  have hB1 : Below w.heap.size w w1 := Below.trans (by repeat (first | with_reducible exact Below.refl _ _ | refine Below.alloc ?_ (by simp <;> omega) _)) (hb.mono (by simp <;> omega))
  have c0 := cellB k0; have c1 := cellB k1; have K0 := Lib.hid k0; have K1 := Lib.hid k1; clear k0 k1 hb
  go_wp2_with fail
  refine (eqClient _ _ _ _ _ _ (good_Cli.agree H1_saved.out (agree_below (B := w.heap.size) hB1 (good_Cli.lt H1_saved.out))) (good_Cli.agree H2_saved.out (agree_below (B := w.heap.size) hB1 (good_Cli.lt H2_saved.out)))).mono ?_
  rintro e w2 ⟨rfl, hb⟩
  have k0 := blk hb K0.out
  have k1 := blk hb K1.out
  have hB2 : Below w.heap.size w w2 := hB1.trans (hb.mono hB1.size)
  clear c0 c1
  have c0 := cellB k0; have c1 := cellB k1; have K0 := Lib.hid k0; have K1 := Lib.hid k1; clear k0 k1 hb
  go_wp2
  go_ret
  exact ⟨rfl, hB2⟩


set_option maxHeartbeats 400000 in
set_option maxRecDepth 100000 in
theorem eqServerS (w : World) (v1 v2 : Value) (l : (List Srv)) (fp1 fp2 : List Nat) (h1 : Sl 5 ESrv w v1 l fp1) (h2 : Sl 5 ESrv w v2 l fp2) :
    Calls Try.prog 57 #[v1, v2] w (Gives w (.bool true)) := by
  have HX1 := Lib.hid h1
  have HX2 := Lib.hid h2
  obtain ⟨oa1, cap1, rfl, hc1, hm1, _⟩ := h1
  obtain ⟨oa2, cap2, rfl, hc2, hm2, _⟩ := h2
  obtain ⟨n, hl⟩ : ∃ n, n = l.length := ⟨_, rfl⟩
  rw [← hl] at hc1 hc2 HX1 HX2
  have HL := Lib.hid hl
  rw [← hl]
  clear hl
  unfold maxLen at hm1 hm2
  go_enter Try.func57, Try.ntmps57
  go_wp2_with fail
  go_loopw [5] (fun i wr => ∃ k : Nat, k ≤ n ∧ i = .int .i64 k ∧ Below w.heap.size w wr) (fun i _ => n - (intOf i).toNat)
  case atStart => exact ⟨0, by omega, rfl, Below.refl _ _⟩
  case round =>
    obtain ⟨k, hk, rfl, hb⟩ := hrel
    by_cases hk2 : k < n
    · obtain ⟨x, hx⟩ := getE (l := l) (k := k) (by have := HL.out; omega)
      obtain ⟨b1, off1, f1, cs1, rfl, hr1, hE1, _⟩ := (Sl.below good_Srv HX1.out hb).at hx
      obtain ⟨b2, off2, f2, cs2, rfl, hr2, hE2, _⟩ := (Sl.below good_Srv HX2.out hb).at hx
      clear hx
      have HR1 := Lib.hid hr1
      have HR2 := Lib.hid hr2
      have HS1 := Lib.hid (good_Srv.len hE1)
      have HS2 := Lib.hid (good_Srv.len hE2)
      have HE1 := Lib.hid hE1
      have HE2 := Lib.hid hE2
      clear hr1 hr2 hE1 hE2
      go_wp2_with fail
      refine wp_region_still_tail 8 (by kernel_rfl) (by kernel_rfl) ?_
      simp only [List.take_succ_cons, List.take_zero, List.drop_succ_cons, List.drop_zero]
      still_step
      still_step
      still_step
      refine wpStill_step (fun K hK => ?_); refine still_ld row_Srv_impl HR1.out HS1.out rfl rfl ?_; refine hK _ ?_; clear hK K
      still_step
      still_step
      still_step
      refine wpStill_step (fun K hK => ?_); refine still_ld row_Srv_impl HR2.out HS2.out rfl rfl ?_; refine hK _ ?_; clear hK K
      refine wpStill_nil ?_
      change wpList _ _ _ _ _ wr.drew
      go_wp2_with fail
      refine (eqServer _ _ _ _ _ _ (good_Srv.drew HE1.out) (good_Srv.drew HE2.out)).mono ?_
      rintro e w1 ⟨rfl, hb1⟩
      have hb2 : Below w.heap.size w w1 := (hb.drew).trans (hb1.mono hb.size)
      clear hb1 hb HE1 HE2
      go_wp2
      go_roundw
      case rel => exact ⟨k + 1, by omega, by go_num, hb2⟩
      case measure => simp [intOf]; omega
    · go_wp2
      go_ret
      exact ⟨rfl, hb⟩


set_option maxHeartbeats 400000 in
set_option maxRecDepth 100000 in
theorem eqDeviceS (w : World) (v1 v2 : Value) (l : (List Dev)) (fp1 fp2 : List Nat) (h1 : Sl 16 EDev w v1 l fp1) (h2 : Sl 16 EDev w v2 l fp2) :
    Calls Try.prog 58 #[v1, v2] w (Gives w (.bool true)) := by
  have HX1 := Lib.hid h1
  have HX2 := Lib.hid h2
  obtain ⟨oa1, cap1, rfl, hc1, hm1, _⟩ := h1
  obtain ⟨oa2, cap2, rfl, hc2, hm2, _⟩ := h2
  obtain ⟨n, hl⟩ : ∃ n, n = l.length := ⟨_, rfl⟩
  rw [← hl] at hc1 hc2 HX1 HX2
  have HL := Lib.hid hl
  rw [← hl]
  clear hl
  unfold maxLen at hm1 hm2
  go_enter Try.func58, Try.ntmps58
  go_wp2_with fail
  go_loopw [5] (fun i wr => ∃ k : Nat, k ≤ n ∧ i = .int .i64 k ∧ Below w.heap.size w wr) (fun i _ => n - (intOf i).toNat)
  case atStart => exact ⟨0, by omega, rfl, Below.refl _ _⟩
  case round =>
    obtain ⟨k, hk, rfl, hb⟩ := hrel
    by_cases hk2 : k < n
    · obtain ⟨x, hx⟩ := getE (l := l) (k := k) (by have := HL.out; omega)
      obtain ⟨b1, off1, f1, cs1, rfl, hr1, hE1, _⟩ := (Sl.below good_Dev HX1.out hb).at hx
      obtain ⟨b2, off2, f2, cs2, rfl, hr2, hE2, _⟩ := (Sl.below good_Dev HX2.out hb).at hx
      clear hx
      have HR1 := Lib.hid hr1
      have HR2 := Lib.hid hr2
      have HS1 := Lib.hid (good_Dev.len hE1)
      have HS2 := Lib.hid (good_Dev.len hE2)
      have HE1 := Lib.hid hE1
      have HE2 := Lib.hid hE2
      clear hr1 hr2 hE1 hE2
      go_wp2_with fail
      refine wp_region_still_tail 8 (by kernel_rfl) (by kernel_rfl) ?_
      simp only [List.take_succ_cons, List.take_zero, List.drop_succ_cons, List.drop_zero]
      still_step
      still_step
      still_step
      refine wpStill_step (fun K hK => ?_); refine still_ld row_Dev_impl HR1.out HS1.out rfl rfl ?_; refine hK _ ?_; clear hK K
      still_step
      still_step
      still_step
      refine wpStill_step (fun K hK => ?_); refine still_ld row_Dev_impl HR2.out HS2.out rfl rfl ?_; refine hK _ ?_; clear hK K
      refine wpStill_nil ?_
      change wpList _ _ _ _ _ wr.drew
      go_wp2_with fail
      refine (eqDevice _ _ _ _ _ _ (good_Dev.drew HE1.out) (good_Dev.drew HE2.out)).mono ?_
      rintro e w1 ⟨rfl, hb1⟩
      have hb2 : Below w.heap.size w w1 := (hb.drew).trans (hb1.mono hb.size)
      clear hb1 hb HE1 HE2
      go_wp2
      go_roundw
      case rel => exact ⟨k + 1, by omega, by go_num, hb2⟩
      case measure => simp [intOf]; omega
    · go_wp2
      go_ret
      exact ⟨rfl, hb⟩


set_option maxHeartbeats 800000 in
set_option maxRecDepth 100000 in
theorem eqWorld (w : World) (cs1 cs2 : List Value) (x : Wld) (fp1 fp2 : List Nat) (hx1 : EWld w cs1 x fp1) (hx2 : EWld w cs2 x fp2) :
    Calls Try.prog 19 #[.agg cs1.toArray, .agg cs2.toArray] w (Gives w (.bool true)) := by
  obtain ⟨v1_servers, v1_devices, _, v1_replaced, f1_servers, f1_devices, _, f1_replaced, rfl, h1_servers, h1_devices, ⟨v1_archive_rounds, f1_archive_rounds, rfl, h1_archive_rounds, rfl⟩, h1_replaced, rfl⟩ := hx1
  obtain ⟨v2_servers, v2_devices, _, v2_replaced, f2_servers, f2_devices, _, f2_replaced, rfl, h2_servers, h2_devices, ⟨v2_archive_rounds, f2_archive_rounds, rfl, h2_archive_rounds, rfl⟩, h2_replaced, rfl⟩ := hx2
  have H1_servers := Lib.hid h1_servers
  have H1_devices := Lib.hid h1_devices
  have H1_archive : Hid (EArc w [.int .i64 x.archive.rows, v1_archive_rounds] x.archive _) := Lib.hid ⟨_, _, rfl, h1_archive_rounds, rfl⟩
  have H1_replaced := Lib.hid h1_replaced
  have H2_servers := Lib.hid h2_servers
  have H2_devices := Lib.hid h2_devices
  have H2_archive : Hid (EArc w [.int .i64 x.archive.rows, v2_archive_rounds] x.archive _) := Lib.hid ⟨_, _, rfl, h2_archive_rounds, rfl⟩
  have H2_replaced := Lib.hid h2_replaced
  clear h1_servers h1_devices h1_archive_rounds h1_replaced h2_servers h2_devices h2_archive_rounds h2_replaced
  go_enter Try.func19, Try.ntmps19
  go_wp2_with fail
  refine (eqServerS _ _ _ _ _ _ (Sl.agree good_Srv H1_servers.out (agree_below (B := w.heap.size) (by repeat (first | with_reducible exact Below.refl _ _ | refine Below.alloc ?_ (by simp <;> omega) _)) (Sl.lt good_Srv H1_servers.out))) (Sl.agree good_Srv H2_servers.out (agree_below (B := w.heap.size) (by repeat (first | with_reducible exact Below.refl _ _ | refine Below.alloc ?_ (by simp <;> omega) _)) (Sl.lt good_Srv H2_servers.out)))).mono ?_
  rintro e w1 ⟨rfl, hb⟩
  have k0 : w1.heap[w.heap.size]? = some (.cells #[.int .i64 x.rows, v1_servers, v1_devices, .int .i64 x.archive.rows, v1_archive_rounds, .int .i64 x.master, .int .i64 x.seed, .int .i64 x.round, v1_replaced, .int .i64 x.cancelled] 38 (0, 0)) := blk hb (alloc_old (alloc_top rfl))
  have k1 : w1.heap[w.heap.size + 1]? = some (.cells #[.int .i64 x.rows, v2_servers, v2_devices, .int .i64 x.archive.rows, v2_archive_rounds, .int .i64 x.master, .int .i64 x.seed, .int .i64 x.round, v2_replaced, .int .i64 x.cancelled] 38 (0, 0)) := blk hb (alloc_top (by simp))
  have hB1 : Below w.heap.size w w1 := Below.trans (by repeat (first | with_reducible exact Below.refl _ _ | refine Below.alloc ?_ (by simp <;> omega) _)) (hb.mono (by simp <;> omega))
  have c0 := cellB k0; have c1 := cellB k1; have K0 := Lib.hid k0; have K1 := Lib.hid k1; clear k0 k1 hb
  go_wp2_with fail
  refine (eqDeviceS _ _ _ _ _ _ (Sl.agree good_Dev H1_devices.out (agree_below (B := w.heap.size) hB1 (Sl.lt good_Dev H1_devices.out))) (Sl.agree good_Dev H2_devices.out (agree_below (B := w.heap.size) hB1 (Sl.lt good_Dev H2_devices.out)))).mono ?_
  rintro e w2 ⟨rfl, hb⟩
  have k0 := blk hb K0.out
  have k1 := blk hb K1.out
  have hB2 : Below w.heap.size w w2 := hB1.trans (hb.mono hB1.size)
  clear c0 c1
  have c0 := cellB k0; have c1 := cellB k1; have K0 := Lib.hid k0; have K1 := Lib.hid k1; clear k0 k1 hb
  go_wp2_with fail
  refine (eqArchive _ _ _ _ _ _ (good_Arc.agree H1_archive.out (agree_below (B := w.heap.size) hB2 (good_Arc.lt H1_archive.out))) (good_Arc.agree H2_archive.out (agree_below (B := w.heap.size) hB2 (good_Arc.lt H2_archive.out)))).mono ?_
  rintro e w3 ⟨rfl, hb⟩
  have k0 := blk hb K0.out
  have k1 := blk hb K1.out
  have hB3 : Below w.heap.size w w3 := hB2.trans (hb.mono hB2.size)
  clear c0 c1
  have c0 := cellB k0; have c1 := cellB k1; have K0 := Lib.hid k0; have K1 := Lib.hid k1; clear k0 k1 hb
  go_wp2_with fail
  refine (eqIntS _ _ _ _ _ _ (Sl.agree good_int H1_replaced.out (agree_below (B := w.heap.size) hB3 (Sl.lt good_int H1_replaced.out))) (Sl.agree good_int H2_replaced.out (agree_below (B := w.heap.size) hB3 (Sl.lt good_int H2_replaced.out)))).mono ?_
  rintro e w4 ⟨rfl, hb⟩
  have k0 := blk hb K0.out
  have k1 := blk hb K1.out
  have hB4 : Below w.heap.size w w4 := hB3.trans (hb.mono hB3.size)
  clear c0 c1
  have c0 := cellB k0; have c1 := cellB k1; have K0 := Lib.hid k0; have K1 := Lib.hid k1; clear k0 k1 hb
  go_wp2
  go_ret
  exact ⟨rfl, hB4⟩

end Go.Proofs.Ytfiaikmlnemnfaa.C
