/-
  Contracts of the laws own functions: equalities.
-/
import Derived.Test.YthlflnplnajjiaaC0
namespace Go.Proofs.Ythlflnplnajjiaa.C
open Go.RowKit L D

set_option maxHeartbeats 400000 in
set_option maxRecDepth 100000 in
theorem eqByteS (w : World) (v1 v2 : Value) (l : (List UInt8)) (fp1 fp2 : List Nat) (h1 : Sl 1 EU8 w v1 l fp1) (h2 : Sl 1 EU8 w v2 l fp2) :
    Calls Try.prog 20 #[v1, v2] w (Gives w (.bool true)) := by
  have HX1 := Lib.hid h1
  have HX2 := Lib.hid h2
  obtain ⟨oa1, cap1, rfl, hc1, hm1, _⟩ := h1
  obtain ⟨oa2, cap2, rfl, hc2, hm2, _⟩ := h2
  obtain ⟨n, hl⟩ : ∃ n, n = l.length := ⟨_, rfl⟩
  rw [← hl] at hc1 hc2 HX1 HX2
  have HL := Lib.hid hl
  rw [← hl]
  clear hl
  unfold maxLen at hm1 hm2
  go_enter Try.func20, Try.ntmps20
  go_wp2_with fail
  go_loopw [5] (fun i wr => ∃ k : Nat, k ≤ n ∧ i = .int .i64 k ∧ Below w.heap.size w wr) (fun i _ => n - (intOf i).toNat)
  case atStart => exact ⟨0, by omega, rfl, Below.refl _ _⟩
  case round =>
    obtain ⟨k, hk, rfl, hb⟩ := hrel
    by_cases hk2 : k < n
    · obtain ⟨x, hx⟩ := getE (l := l) (k := k) (by have := HL.out; omega)
      obtain ⟨b1, off1, f1, cs1, rfl, hr1, hE1, _⟩ := (Sl.below good_u8 HX1.out hb).at hx
      obtain ⟨b2, off2, f2, cs2, rfl, hr2, hE2, _⟩ := (Sl.below good_u8 HX2.out hb).at hx
      clear hx
      obtain ⟨rfl, rfl⟩ := hE1
      obtain ⟨rfl, rfl⟩ := hE2
      have hc1 : wr.cell? ⟨b1, off1 + k, none⟩ = some (.int .u8 x.toNat) := by have := hr1 0 _ rfl; simpa using this
      have hc2 : wr.cell? ⟨b2, off2 + k, none⟩ = some (.int .u8 x.toNat) := by have := hr2 0 _ rfl; simpa using this
      have hk3 : (k : Int) < n := by omega
      clear hr1 hr2
      go_wp2_with fail
      go_quiet (fail)
      go_wp2
      go_roundw
      case rel => exact ⟨k + 1, by omega, by go_num, Below.trans hb ⟨rfl, rfl, rfl, Nat.le_refl _, fun _ _ => rfl⟩⟩
      case measure => simp [intOf]; omega
    · go_wp2
      go_ret
      exact ⟨rfl, hb⟩


set_option maxHeartbeats 400000 in
set_option maxRecDepth 100000 in
theorem eqIntS (w : World) (v1 v2 : Value) (l : (List Int)) (fp1 fp2 : List Nat) (h1 : Sl 1 EInt w v1 l fp1) (h2 : Sl 1 EInt w v2 l fp2) :
    Calls Try.prog 16 #[v1, v2] w (Gives w (.bool true)) := by
  have HX1 := Lib.hid h1
  have HX2 := Lib.hid h2
  obtain ⟨oa1, cap1, rfl, hc1, hm1, _⟩ := h1
  obtain ⟨oa2, cap2, rfl, hc2, hm2, _⟩ := h2
  obtain ⟨n, hl⟩ : ∃ n, n = l.length := ⟨_, rfl⟩
  rw [← hl] at hc1 hc2 HX1 HX2
  have HL := Lib.hid hl
  rw [← hl]
  clear hl
  unfold maxLen at hm1 hm2
  go_enter Try.func16, Try.ntmps16
  go_wp2_with fail
  go_loopw [5] (fun i wr => ∃ k : Nat, k ≤ n ∧ i = .int .i64 k ∧ Below w.heap.size w wr) (fun i _ => n - (intOf i).toNat)
  case atStart => exact ⟨0, by omega, rfl, Below.refl _ _⟩
  case round =>
    obtain ⟨k, hk, rfl, hb⟩ := hrel
    by_cases hk2 : k < n
    · obtain ⟨x, hx⟩ := getE (l := l) (k := k) (by have := HL.out; omega)
      obtain ⟨b1, off1, f1, cs1, rfl, hr1, hE1, _⟩ := (Sl.below good_int HX1.out hb).at hx
      obtain ⟨b2, off2, f2, cs2, rfl, hr2, hE2, _⟩ := (Sl.below good_int HX2.out hb).at hx
      clear hx
      obtain ⟨rfl, rfl⟩ := hE1
      obtain ⟨rfl, rfl⟩ := hE2
      have hc1 : wr.cell? ⟨b1, off1 + k, none⟩ = some (.int .i64 x) := by have := hr1 0 _ rfl; simpa using this
      have hc2 : wr.cell? ⟨b2, off2 + k, none⟩ = some (.int .i64 x) := by have := hr2 0 _ rfl; simpa using this
      have hk3 : (k : Int) < n := by omega
      clear hr1 hr2
      go_wp2_with fail
      go_quiet (fail)
      go_wp2
      go_roundw
      case rel => exact ⟨k + 1, by omega, by go_num, Below.trans hb ⟨rfl, rfl, rfl, Nat.le_refl _, fun _ _ => rfl⟩⟩
      case measure => simp [intOf]; omega
    · go_wp2
      go_ret
      exact ⟨rfl, hb⟩


set_option maxHeartbeats 400000 in
set_option maxRecDepth 100000 in
theorem eqByteSS (w : World) (v1 v2 : Value) (l : (List (List UInt8))) (fp1 fp2 : List Nat) (h1 : Sl 1 (ESl 1 EU8) w v1 l fp1) (h2 : Sl 1 (ESl 1 EU8) w v2 l fp2) :
    Calls Try.prog 28 #[v1, v2] w (Gives w (.bool true)) := by
  have HX1 := Lib.hid h1
  have HX2 := Lib.hid h2
  obtain ⟨oa1, cap1, rfl, hc1, hm1, _⟩ := h1
  obtain ⟨oa2, cap2, rfl, hc2, hm2, _⟩ := h2
  obtain ⟨n, hl⟩ : ∃ n, n = l.length := ⟨_, rfl⟩
  rw [← hl] at hc1 hc2 HX1 HX2
  have HL := Lib.hid hl
  rw [← hl]
  clear hl
  unfold maxLen at hm1 hm2
  go_enter Try.func28, Try.ntmps28
  go_wp2_with fail
  go_loopw [5] (fun i wr => ∃ k : Nat, k ≤ n ∧ i = .int .i64 k ∧ Below w.heap.size w wr) (fun i _ => n - (intOf i).toNat)
  case atStart => exact ⟨0, by omega, rfl, Below.refl _ _⟩
  case round =>
    obtain ⟨k, hk, rfl, hb⟩ := hrel
    by_cases hk2 : k < n
    · obtain ⟨x, hx⟩ := getE (l := l) (k := k) (by have := HL.out; omega)
      obtain ⟨b1, off1, f1, cs1, rfl, hr1, hE1, _⟩ := (Sl.below (good_sl good_u8) HX1.out hb).at hx
      obtain ⟨b2, off2, f2, cs2, rfl, hr2, hE2, _⟩ := (Sl.below (good_sl good_u8) HX2.out hb).at hx
      clear hx
      obtain ⟨ve1, rfl, hE1⟩ := hE1
      obtain ⟨ve2, rfl, hE2⟩ := hE2
      have hc1 : wr.cell? ⟨b1, off1 + k, none⟩ = some ve1 := by have := hr1 0 _ rfl; simpa using this
      have hc2 : wr.cell? ⟨b2, off2 + k, none⟩ = some ve2 := by have := hr2 0 _ rfl; simpa using this
      have HE1 := Lib.hid hE1
      have HE2 := Lib.hid hE2
      clear hr1 hr2 hE1 hE2
      go_wp2_with fail
      refine wp_region_still_tail 8 (by kernel_rfl) (by kernel_rfl) ?_
      simp only [List.take_succ_cons, List.take_zero, List.drop_succ_cons, List.drop_zero]
      still_step
      still_step
      still_step
      still_step
      still_step
      still_step
      still_step
      still_step
      refine wpStill_nil ?_
      change wpList _ _ _ _ _ wr.drew
      go_wp2_with fail
      refine (eqByteS _ _ _ _ _ _ (Sl.drew good_u8 HE1.out) (Sl.drew good_u8 HE2.out)).mono ?_
      rintro e w1 ⟨rfl, hb1⟩
      have hb2 : Below w.heap.size w w1 := (hb.drew).trans (hb1.mono hb.size)
      clear hb1 hb HE1 HE2
      go_wp2
      go_roundw
      case rel => exact ⟨k + 1, by omega, by go_num, hb2⟩
      case measure => simp [intOf]; omega
    · go_wp2
      go_ret
      exact ⟨rfl, hb⟩


set_option maxHeartbeats 800000 in
set_option maxRecDepth 100000 in
theorem eqEvent (w : World) (cs1 cs2 : List Value) (x : Ev) (fp1 fp2 : List Nat) (hx1 : EEv w cs1 x fp1) (hx2 : EEv w cs2 x fp2) :
    Calls Try.prog 38 #[.agg cs1.toArray, .agg cs2.toArray] w (Gives w (.bool true)) := by
  obtain ⟨v1_body, f1_body, rfl, h1_body, rfl⟩ := hx1
  obtain ⟨v2_body, f2_body, rfl, h2_body, rfl⟩ := hx2
  have H1_body := Lib.hid h1_body
  have H2_body := Lib.hid h2_body
  clear h1_body h2_body
  go_enter Try.func38, Try.ntmps38
  go_wp2_with fail
  refine (eqByteS _ _ _ _ _ _ (Sl.agree good_u8 H1_body.out (agree_below (B := w.heap.size) (by repeat (first | with_reducible exact Below.refl _ _ | refine Below.alloc ?_ (by simp <;> omega) _)) (Sl.lt good_u8 H1_body.out))) (Sl.agree good_u8 H2_body.out (agree_below (B := w.heap.size) (by repeat (first | with_reducible exact Below.refl _ _ | refine Below.alloc ?_ (by simp <;> omega) _)) (Sl.lt good_u8 H2_body.out)))).mono ?_
  rintro e w1 ⟨rfl, hb⟩
  have k0 : w1.heap[w.heap.size]? = some (.cells #[.int .i64 x.kind, .int .i64 x.node, .int .i64 x.value, v1_body] 55 (0, 0)) := blk hb (alloc_old (alloc_top rfl))
  have k1 : w1.heap[w.heap.size + 1]? = some (.cells #[.int .i64 x.kind, .int .i64 x.node, .int .i64 x.value, v2_body] 55 (0, 0)) := blk hb (alloc_top (by simp))
  have hB1 : Below w.heap.size w w1 := Below.trans (by repeat (first | with_reducible exact Below.refl _ _ | refine Below.alloc ?_ (by simp <;> omega) _)) (hb.mono (by simp <;> omega))
  have c0 := cellB k0; have c1 := cellB k1; have K0 := Lib.hid k0; have K1 := Lib.hid k1; clear k0 k1 hb
  go_wp2
  go_ret
  exact ⟨rfl, hB1⟩


set_option maxHeartbeats 400000 in
set_option maxRecDepth 100000 in
theorem eqEventS (w : World) (v1 v2 : Value) (l : (List Ev)) (fp1 fp2 : List Nat) (h1 : Sl 4 EEv w v1 l fp1) (h2 : Sl 4 EEv w v2 l fp2) :
    Calls Try.prog 25 #[v1, v2] w (Gives w (.bool true)) := by
  have HX1 := Lib.hid h1
  have HX2 := Lib.hid h2
  obtain ⟨oa1, cap1, rfl, hc1, hm1, _⟩ := h1
  obtain ⟨oa2, cap2, rfl, hc2, hm2, _⟩ := h2
  obtain ⟨n, hl⟩ : ∃ n, n = l.length := ⟨_, rfl⟩
  rw [← hl] at hc1 hc2 HX1 HX2
  have HL := Lib.hid hl
  rw [← hl]
  clear hl
  unfold maxLen at hm1 hm2
  go_enter Try.func25, Try.ntmps25
  go_wp2_with fail
  go_loopw [5] (fun i wr => ∃ k : Nat, k ≤ n ∧ i = .int .i64 k ∧ Below w.heap.size w wr) (fun i _ => n - (intOf i).toNat)
  case atStart => exact ⟨0, by omega, rfl, Below.refl _ _⟩
  case round =>
    obtain ⟨k, hk, rfl, hb⟩ := hrel
    by_cases hk2 : k < n
    · obtain ⟨x, hx⟩ := getE (l := l) (k := k) (by have := HL.out; omega)
      obtain ⟨b1, off1, f1, cs1, rfl, hr1, hE1, _⟩ := (Sl.below good_Ev HX1.out hb).at hx
      obtain ⟨b2, off2, f2, cs2, rfl, hr2, hE2, _⟩ := (Sl.below good_Ev HX2.out hb).at hx
      clear hx
      have HR1 := Lib.hid hr1
      have HR2 := Lib.hid hr2
      have HS1 := Lib.hid (good_Ev.len hE1)
      have HS2 := Lib.hid (good_Ev.len hE2)
      have HE1 := Lib.hid hE1
      have HE2 := Lib.hid hE2
      clear hr1 hr2 hE1 hE2
      go_wp2_with fail
      refine wp_region_still_tail 8 (by kernel_rfl) (by kernel_rfl) ?_
      simp only [List.take_succ_cons, List.take_zero, List.drop_succ_cons, List.drop_zero]
      still_step
      still_step
      still_step
      refine wpStill_step (fun K hK => ?_); refine still_ld row_Ev_impl HR1.out HS1.out rfl rfl ?_; refine hK _ ?_; clear hK K
      still_step
      still_step
      still_step
      refine wpStill_step (fun K hK => ?_); refine still_ld row_Ev_impl HR2.out HS2.out rfl rfl ?_; refine hK _ ?_; clear hK K
      refine wpStill_nil ?_
      change wpList _ _ _ _ _ wr.drew
      go_wp2_with fail
      refine (eqEvent _ _ _ _ _ _ (good_Ev.drew HE1.out) (good_Ev.drew HE2.out)).mono ?_
      rintro e w1 ⟨rfl, hb1⟩
      have hb2 : Below w.heap.size w w1 := (hb.drew).trans (hb1.mono hb.size)
      clear hb1 hb HE1 HE2
      go_wp2
      go_roundw
      case rel => exact ⟨k + 1, by omega, by go_num, hb2⟩
      case measure => simp [intOf]; omega
    · go_wp2
      go_ret
      exact ⟨rfl, hb⟩

end Go.Proofs.Ythlflnplnajjiaa.C
