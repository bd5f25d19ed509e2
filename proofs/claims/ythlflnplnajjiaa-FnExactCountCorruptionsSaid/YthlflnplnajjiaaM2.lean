/-
  Contracts: corruptions counted.
-/
import Derived.Test.YthlflnplnajjiaaC0
namespace Go.Proofs.Ythlflnplnajjiaa.C
open Go.RowKit L D

theorem take_snoc' {α : Type} {l : List α} {k : Nat} {x : α} (h : l[k]? = some x) : l.take (k + 1) = l.take k ++ [x] := by
  rw [List.take_add_one, h]; rfl

def corr (e : Ev) : Bool := e.kind == 4 && e.value != 0
def cntCorr (l : List Ev) : Nat := (l.filter corr).length
theorem cntCorr_le (l : List Ev) (k : Nat) : cntCorr (l.take k) ≤ k := by
  unfold cntCorr
  exact Nat.le_trans (List.length_filter_le _ _) (List.length_take_le _ _)
theorem cntCorr_snoc (l : List Ev) (x : Ev) : cntCorr (l ++ [x]) = cntCorr l + if corr x then 1 else 0 := by
  unfold cntCorr; rw [List.filter_append]; by_cases h : corr x <;> simp [h]

set_option maxHeartbeats 400000 in
set_option maxRecDepth 100000 in
theorem spec_CountCorruptions (w : World) (v : Value) (l : List Ev) (fp : List Nat) (h : Sl 4 EEv w v l fp) (hs : lsz size_Ev l ≤ 1048576) (_hw : ∀ x, x ∈ l → wf_Ev x) :
    Calls Try.prog 22 #[v] w (Gives w (.int .i64 (cntCorr l))) := by
  have HX := Lib.hid h
  obtain ⟨oa, cap, rfl, hc, hm, _⟩ := h
  obtain ⟨n, hl⟩ : ∃ n, n = l.length := ⟨_, rfl⟩
  have hln : n ≤ 1048576 := by have := lsz_len hs; omega
  rw [← hl] at hc HX ⊢
  have HL := Lib.hid hl; clear hl
  go_enter Try.func22, Try.ntmps22
  go_wp2_with fail
  go_loopw [3, 4] (fun t i wr => ∃ k : Nat, k ≤ n ∧ i = .int .i64 k ∧ t = .int .i64 (cntCorr (l.take k)) ∧ Below w.heap.size w wr) (fun _ i _ => n - (intOf i).toNat)
  case atStart => exact ⟨0, by omega, rfl, rfl, Below.refl _ _⟩
  case round =>
    obtain ⟨k, hk, rfl, rfl, hb⟩ := hrel
    have hle := cntCorr_le l k
    by_cases hk2 : k < n
    · obtain ⟨x, hx⟩ := getE (l := l) (k := k) (by have := HL.out; omega)
      obtain ⟨b, off, f, cs, rfl, hr, ⟨v3, f3, rfl, _, _⟩, _⟩ := (Sl.below good_Ev HX.out hb).at hx
      have c0 := hr 0 _ rfl
      have c2 := hr 2 _ rfl
      rw [Nat.add_zero] at c0
      have HS := Lib.hid (show cntCorr (l.take (k + 1)) = cntCorr (l.take k) + if corr x then 1 else 0 by rw [take_snoc' hx, cntCorr_snoc])
      clear hr hx
      by_cases h4 : x.kind = 4
      · have e4 : (x.kind == 4) = true := by simp [h4]
        by_cases h0 : x.value = 0
        · have e0 : (x.value != 0) = false := by simp [h0]
          have HC := Lib.hid (show corr x = false by simp [corr, h0])
          clear h4 h0
          go_wp2_with fail
          go_roundw
          case rel => exact ⟨k + 1, by omega, by go_num, by rw [HS.out, HC.out]; simp, hb⟩
          case measure => simp [intOf]; omega
        · have e0 : (x.value != 0) = true := by simp [h0]
          have HC := Lib.hid (show corr x = true by simp [corr, h0, h4])
          clear h4 h0
          go_wp2_with fail
          go_roundw
          case rel => exact ⟨k + 1, by omega, by go_num, by rw [HS.out, HC.out]; simp, hb⟩
          case measure => simp [intOf]; omega
      · have e4 : (x.kind == 4) = false := by simp [h4]
        have HC := Lib.hid (show corr x = false by simp [corr, h4])
        clear h4
        go_wp2_with fail
        go_roundw
        case rel => exact ⟨k + 1, by omega, by go_num, by rw [HS.out, HC.out]; simp, hb⟩
        case measure => simp [intOf]; omega
    · have H := Lib.hid (show l.take k = l from List.take_of_length_le (by have := HL.out; omega))
      go_wp2
      go_ret
      exact ⟨ret_int (by rw [H.out]), hb⟩

set_option maxHeartbeats 400000 in
set_option maxRecDepth 100000 in
theorem impl_CountCorruptions (w : World) (v : Value) (l : List Ev) (fp : List Nat) (h : Sl 4 EEv w v l fp) (hs : lsz size_Ev l ≤ 1048576) (_hw : ∀ x, x ∈ l → wf_Ev x) :
    Calls Try.prog 24 #[v] w (Gives w (.int .i64 (cntCorr l))) := by
  have HX := Lib.hid h
  obtain ⟨oa, cap, rfl, hc, hm, _⟩ := h
  obtain ⟨n, hl⟩ : ∃ n, n = l.length := ⟨_, rfl⟩
  have hln : n ≤ 1048576 := by have := lsz_len hs; omega
  rw [← hl] at hc HX ⊢
  have HL := Lib.hid hl; clear hl
  go_enter Try.func24, Try.ntmps24
  go_wp2_with fail
  go_loopw [3, 8] (fun t i wr => ∃ k : Nat, k ≤ n ∧ i = .int .i64 k ∧ t = .int .i64 (cntCorr (l.take k)) ∧ Below w.heap.size w wr) (fun _ i _ => n - (intOf i).toNat)
  case atStart => exact ⟨0, by omega, rfl, rfl, Below.refl _ _⟩
  case round =>
    obtain ⟨k, hk, rfl, rfl, hb⟩ := hrel
    have hle := cntCorr_le l k
    by_cases hk2 : k < n
    · obtain ⟨x, hx⟩ := getE (l := l) (k := k) (by have := HL.out; omega)
      obtain ⟨b, off, f, cs, rfl, hr, ⟨v3, f3, rfl, ⟨oa3, cap3, rfl, _⟩, _⟩, _⟩ := (Sl.below good_Ev HX.out hb).at hx
      have HR := Lib.hid hr
      have HS := Lib.hid (show cntCorr (l.take (k + 1)) = cntCorr (l.take k) + if corr x then 1 else 0 by rw [take_snoc' hx, cntCorr_snoc])
      have hb2 := hb.alloc hb.size (.cells #[.int .i64 x.kind, .int .i64 x.node, .int .i64 x.value, .slice oa3 x.body.length cap3] 55)
      clear hr hx
      by_cases h4 : x.kind = 4
      · have e4 : (x.kind == 4) = true := by simp [h4]
        by_cases h0 : x.value = 0
        · have e0 : (x.value != 0) = false := by simp [h0]
          have HC := Lib.hid (show corr x = false by simp [corr, h0])
          clear h4 h0
          go_wp2_with ((with_reducible refine wpList_ld (op := ⟨some 11, _, _, _, _, _⟩) row_Ev_impl HR.out rfl rfl rfl ?_ ?_); exact rfl)
          go_roundw
          case rel => exact ⟨k + 1, by omega, by go_num, by rw [HS.out, HC.out]; simp, hb2⟩
          case measure => simp [intOf]; omega
        · have e0 : (x.value != 0) = true := by simp [h0]
          have HC := Lib.hid (show corr x = true by simp [corr, h0, h4])
          clear h4 h0
          go_wp2_with ((with_reducible refine wpList_ld (op := ⟨some 11, _, _, _, _, _⟩) row_Ev_impl HR.out rfl rfl rfl ?_ ?_); exact rfl)
          go_roundw
          case rel => exact ⟨k + 1, by omega, by go_num, by rw [HS.out, HC.out]; simp, hb2⟩
          case measure => simp [intOf]; omega
      · have e4 : (x.kind == 4) = false := by simp [h4]
        have HC := Lib.hid (show corr x = false by simp [corr, h4])
        clear h4
        go_wp2_with ((with_reducible refine wpList_ld (op := ⟨some 11, _, _, _, _, _⟩) row_Ev_impl HR.out rfl rfl rfl ?_ ?_); exact rfl)
        go_roundw
        case rel => exact ⟨k + 1, by omega, by go_num, by rw [HS.out, HC.out]; simp, hb2⟩
        case measure => simp [intOf]; omega
    · have H := Lib.hid (show l.take k = l from List.take_of_length_le (by have := HL.out; omega))
      go_wp2
      go_ret
      exact ⟨ret_int (by rw [H.out]), hb⟩
end Go.Proofs.Ythlflnplnajjiaa.C
