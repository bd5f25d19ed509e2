/-
  Contracts of the laws own functions: copies.
-/
import Derived.Test.YtfiaikmlnemnfaaC0
namespace Go.Proofs.Ytfiaikmlnemnfaa.C
open Go.RowKit L D

set_option maxHeartbeats 400000 in
set_option maxRecDepth 100000 in
theorem toByteS (w : World) (v : Value) (l : (List UInt8)) (fp : List Nat) (h : Sl 1 EU8 w v l fp) (hsz : l.length ≤ 1048576) :
    Calls Try.prog 182 #[v] w (Fresh 1 EU8 5 w l) := by
  have HX := Lib.hid h
  obtain ⟨oa, cap, rfl, hc, hm, _⟩ := h
  obtain ⟨n, hl⟩ : ∃ n, n = l.length := ⟨_, rfl⟩
  have hln : n ≤ 1048576 := by omega
  rw [← hl] at hc HX ⊢
  have HL := Lib.hid hl; clear hl
  unfold maxLen at hm
  obtain ⟨ie, hi, hz0, hz1, hz2⟩ := info_parts infz_Byte_impl
  go_enter Try.func182, Try.ntmps182
  go_wp2_with (at_make; refine wpList_make_full _ rfl _ _ 76 rfl w.heap.size 5 ie _ 1 Try.underlying76 hi hz0 hz1 _ _ _ _ n rfl rfl rfl rfl (by rw [hz2]; omega) (by unfold maxLen; omega) (Nat.le_refl _) ?_)
  intro w1 hrow hgr
  have hp := Part.start (α := UInt8) (E := EU8) hrow
  have hb1 : Below w.heap.size w w1 := (Below.refl _ _).grown hgr (Nat.le_refl _) (by simp)
  have hz : w.heap.size < w1.heap.size := hp.own.lt _ (by simp)
  clear hrow hgr hz0 hz1 hz2 hi
  go_wp2_with fail
  go_loopw [4] (fun i wr => ∃ k : Nat, k ≤ n ∧ i = .int .i64 k ∧ ∃ fps, Part 1 EU8 w.heap.size 5 wr w.heap.size n (l.take k) fps ∧ Below w.heap.size w wr ∧ w.heap.size < wr.heap.size) (fun i _ => n - (intOf i).toNat)
  case atStart => exact ⟨0, by omega, rfl, [], by simpa using hp, hb1, hz⟩
  case round =>
    obtain ⟨k, hk, rfl, fps, hp, hb, hz⟩ := hrel
    by_cases hk2 : k < n
    · obtain ⟨x, hx⟩ := getE (l := l) (k := k) (by have := HL.out; omega)
      obtain ⟨b, off, f, cs, rfl, hr, hE, _⟩ := (Sl.below good_u8 HX.out hb).at hx
      have HY := Lib.hid hx
      have HP := Lib.hid hp
      have hlt := Lib.hid (show (l.take k).length = k by rw [List.length_take]; have := HL.out; omega)
      clear hx hp
      obtain ⟨rfl, rfl⟩ := hE
      have hc0 : wr.cell? ⟨b, off + k, none⟩ = some (.int .u8 x.toNat) := by have := hr 0 _ rfl; simpa using this
      have hth := HP.out.there k hk2 0 (by omega)
      simp only [Nat.mul_one, Nat.add_zero] at hth
      obtain ⟨hs, hfz⟩ := hth
      obtain ⟨old, hold⟩ := Option.isSome_iff_exists.1 hs
      have hp2 := HP.out.push good_u8 (by rw [hlt.out]; exact hk2) (f := []) (x := x) (cs := [.int .u8 x.toNat]) ⟨rfl, rfl⟩ (Own.nil _ _) (by simp)
      rw [hlt.out, Nat.mul_one] at hp2
      have HP3 : Hid (Part 1 EU8 w.heap.size 5 (wr.setCell ⟨w.heap.size, k, none⟩ (.int .u8 x.toNat)) w.heap.size n (l.take (k + 1)) (fps ++ [[]])) := Lib.hid (by
        rw [List.take_add_one, HY.out]; exact hp2)
      have HB2 := Lib.hid (hb.setCell (p := ⟨w.heap.size, k, none⟩) (Nat.le_refl _) (.int .u8 x.toNat))
      clear hr hp2 hs
      go_wp2_with fail
      go_roundw
      case rel => exact ⟨k + 1, by omega, by go_num, _, HP3.out, HB2.out, by simp [World.setCell]; exact hz⟩
      case measure => simp [intOf]; omega
    · have hkn : k = n := by omega
      subst hkn
      have hd : Bld 1 EU8 w.heap.size 5 wr (.slice (some ⟨w.heap.size, 0, none⟩) k k) l (w.heap.size :: fps.flatten) := by
        have := hp.done good_u8 (by rw [List.length_take]; have := HL.out; omega)
        rw [List.take_of_length_le (by have := HL.out; omega)] at this
        exact this
      clear hp
      have HD := Lib.hid hd; clear hd
      go_wp2
      go_ret
      exact ⟨_, _, rfl, hb, HD.out⟩


set_option maxHeartbeats 400000 in
set_option maxRecDepth 100000 in
theorem toIntS (w : World) (v : Value) (l : (List Int)) (fp : List Nat) (h : Sl 1 EInt w v l fp) (hsz : l.length ≤ 1048576) :
    Calls Try.prog 56 #[v] w (Fresh 1 EInt 3 w l) := by
  have HX := Lib.hid h
  obtain ⟨oa, cap, rfl, hc, hm, _⟩ := h
  obtain ⟨n, hl⟩ : ∃ n, n = l.length := ⟨_, rfl⟩
  have hln : n ≤ 1048576 := by omega
  rw [← hl] at hc HX ⊢
  have HL := Lib.hid hl; clear hl
  unfold maxLen at hm
  obtain ⟨ie, hi, hz0, hz1, hz2⟩ := info_parts infz_Int_impl
  go_enter Try.func56, Try.ntmps56
  go_wp2_with (at_make; refine wpList_make_full _ rfl _ _ 27 rfl w.heap.size 3 ie _ 1 Try.underlying27 hi hz0 hz1 _ _ _ _ n rfl rfl rfl rfl (by rw [hz2]; omega) (by unfold maxLen; omega) (Nat.le_refl _) ?_)
  intro w1 hrow hgr
  have hp := Part.start (α := Int) (E := EInt) hrow
  have hb1 : Below w.heap.size w w1 := (Below.refl _ _).grown hgr (Nat.le_refl _) (by simp)
  have hz : w.heap.size < w1.heap.size := hp.own.lt _ (by simp)
  clear hrow hgr hz0 hz1 hz2 hi
  go_wp2_with fail
  go_loopw [4] (fun i wr => ∃ k : Nat, k ≤ n ∧ i = .int .i64 k ∧ ∃ fps, Part 1 EInt w.heap.size 3 wr w.heap.size n (l.take k) fps ∧ Below w.heap.size w wr ∧ w.heap.size < wr.heap.size) (fun i _ => n - (intOf i).toNat)
  case atStart => exact ⟨0, by omega, rfl, [], by simpa using hp, hb1, hz⟩
  case round =>
    obtain ⟨k, hk, rfl, fps, hp, hb, hz⟩ := hrel
    by_cases hk2 : k < n
    · obtain ⟨x, hx⟩ := getE (l := l) (k := k) (by have := HL.out; omega)
      obtain ⟨b, off, f, cs, rfl, hr, hE, _⟩ := (Sl.below good_int HX.out hb).at hx
      have HY := Lib.hid hx
      have HP := Lib.hid hp
      have hlt := Lib.hid (show (l.take k).length = k by rw [List.length_take]; have := HL.out; omega)
      clear hx hp
      obtain ⟨rfl, rfl⟩ := hE
      have hc0 : wr.cell? ⟨b, off + k, none⟩ = some (.int .i64 x) := by have := hr 0 _ rfl; simpa using this
      have hth := HP.out.there k hk2 0 (by omega)
      simp only [Nat.mul_one, Nat.add_zero] at hth
      obtain ⟨hs, hfz⟩ := hth
      obtain ⟨old, hold⟩ := Option.isSome_iff_exists.1 hs
      have hp2 := HP.out.push good_int (by rw [hlt.out]; exact hk2) (f := []) (x := x) (cs := [.int .i64 x]) ⟨rfl, rfl⟩ (Own.nil _ _) (by simp)
      rw [hlt.out, Nat.mul_one] at hp2
      have HP3 : Hid (Part 1 EInt w.heap.size 3 (wr.setCell ⟨w.heap.size, k, none⟩ (.int .i64 x)) w.heap.size n (l.take (k + 1)) (fps ++ [[]])) := Lib.hid (by
        rw [List.take_add_one, HY.out]; exact hp2)
      have HB2 := Lib.hid (hb.setCell (p := ⟨w.heap.size, k, none⟩) (Nat.le_refl _) (.int .i64 x))
      clear hr hp2 hs
      go_wp2_with fail
      go_roundw
      case rel => exact ⟨k + 1, by omega, by go_num, _, HP3.out, HB2.out, by simp [World.setCell]; exact hz⟩
      case measure => simp [intOf]; omega
    · have hkn : k = n := by omega
      subst hkn
      have hd : Bld 1 EInt w.heap.size 3 wr (.slice (some ⟨w.heap.size, 0, none⟩) k k) l (w.heap.size :: fps.flatten) := by
        have := hp.done good_int (by rw [List.length_take]; have := HL.out; omega)
        rw [List.take_of_length_le (by have := HL.out; omega)] at this
        exact this
      clear hp
      have HD := Lib.hid hd; clear hd
      go_wp2
      go_ret
      exact ⟨_, _, rfl, hb, HD.out⟩


set_option maxHeartbeats 400000 in
set_option maxRecDepth 100000 in
theorem toByteSS (w : World) (v : Value) (l : (List (List UInt8))) (fp : List Nat) (h : Sl 1 (ESl 1 EU8) w v l fp) (hsz : lsz List.length l ≤ 1048576) :
    Calls Try.prog 167 #[v] w (Fresh 1 (ESl 1 EU8) 76 w l) := by
  have HX := Lib.hid h
  obtain ⟨oa, cap, rfl, hc, hm, _⟩ := h
  obtain ⟨n, hl⟩ : ∃ n, n = l.length := ⟨_, rfl⟩
  have hln : n ≤ 1048576 := by have := lsz_len hsz; omega
  rw [← hl] at hc HX ⊢
  have HL := Lib.hid hl; clear hl
  unfold maxLen at hm
  obtain ⟨ie, hi, hz0, hz1, hz2⟩ := info_parts infz_ByteS_impl
  go_enter Try.func167, Try.ntmps167
  go_wp2_with (at_make; refine wpList_make_full _ rfl _ _ 50 rfl w.heap.size 76 ie _ 1 Try.underlying50 hi hz0 hz1 _ _ _ _ n rfl rfl rfl rfl (by rw [hz2]; omega) (by unfold maxLen; omega) (Nat.le_refl _) ?_)
  intro w1 hrow hgr
  have hp := Part.start (α := (List UInt8)) (E := (ESl 1 EU8)) hrow
  have hb1 : Below w.heap.size w w1 := (Below.refl _ _).grown hgr (Nat.le_refl _) (by simp)
  have hz : w.heap.size < w1.heap.size := hp.own.lt _ (by simp)
  clear hrow hgr hz0 hz1 hz2 hi
  go_wp2_with fail
  go_loopw [4] (fun i wr => ∃ k : Nat, k ≤ n ∧ i = .int .i64 k ∧ ∃ fps, Part 1 (ESl 1 EU8) w.heap.size 76 wr w.heap.size n (l.take k) fps ∧ Below w.heap.size w wr ∧ w.heap.size < wr.heap.size) (fun i _ => n - (intOf i).toNat)
  case atStart => exact ⟨0, by omega, rfl, [], by simpa using hp, hb1, hz⟩
  case round =>
    obtain ⟨k, hk, rfl, fps, hp, hb, hz⟩ := hrel
    by_cases hk2 : k < n
    · obtain ⟨x, hx⟩ := getE (l := l) (k := k) (by have := HL.out; omega)
      obtain ⟨b, off, f, cs, rfl, hr, hE, _⟩ := (Sl.below (good_sl good_u8) HX.out hb).at hx
      have HY := Lib.hid hx
      have HP := Lib.hid hp
      have hlt := Lib.hid (show (l.take k).length = k by rw [List.length_take]; have := HL.out; omega)
      clear hx hp
      obtain ⟨ve, rfl, hE⟩ := hE
      have hc0 : wr.cell? ⟨b, off + k, none⟩ = some ve := by have := hr 0 _ rfl; simpa using this
      have hsx := lsz_mem hsz HY.out
      clear hr
      have HE := Lib.hid hE; clear hE
      go_wp2_with fail
      refine (toByteS _ _ _ _ HE.out hsx).mono ?_
      rintro e w2 ⟨v2, f2, rfl, hb2, hB⟩
      obtain ⟨oa2, n2, cap2, rfl⟩ := Sl.form hB.sl
      have hp1 := HP.out.below (good_sl good_u8) hb2
      have hb3 := hb.trans (hb2.mono (Nat.le_of_lt hz))
      have hz2 := hb2.size
      have hth := hp1.there k hk2 0 (by omega)
      simp only [Nat.mul_one, Nat.add_zero] at hth
      obtain ⟨hs, hfz⟩ := hth
      obtain ⟨old, hold⟩ := Option.isSome_iff_exists.1 hs
      have hp2 := hp1.push (good_sl good_u8) (by rw [hlt.out]; exact hk2) (f := f2) (x := x) (cs := [.slice oa2 n2 cap2]) ⟨_, rfl, hB.sl⟩ (hB.own.mono (Nat.le_of_lt hz)) (fun b hb hm => by have h1 := hB.own.ge b hb; have h2 := HP.out.own.lt b hm; omega)
      rw [hlt.out, Nat.mul_one] at hp2
      have HP3 : Hid (Part 1 (ESl 1 EU8) w.heap.size 76 (w2.setCell ⟨w.heap.size, k, none⟩ (.slice oa2 n2 cap2)) w.heap.size n (l.take (k + 1)) (fps ++ [f2])) := Lib.hid (by
        rw [List.take_add_one, HY.out]; exact hp2)
      have HB2 := Lib.hid (hb3.setCell (p := ⟨w.heap.size, k, none⟩) (Nat.le_refl _) (.slice oa2 n2 cap2))
      have hz3 : w.heap.size < w2.heap.size := by omega
      clear hp2 hs hp1 hb3 hB hb2 hz2
      go_wp2_with fail
      go_roundw
      case rel => exact ⟨k + 1, by omega, by go_num, _, HP3.out, HB2.out, by simp [World.setCell]; exact hz3⟩
      case measure => simp [intOf]; omega
    · have hkn : k = n := by omega
      subst hkn
      have hd : Bld 1 (ESl 1 EU8) w.heap.size 76 wr (.slice (some ⟨w.heap.size, 0, none⟩) k k) l (w.heap.size :: fps.flatten) := by
        have := hp.done (good_sl good_u8) (by rw [List.length_take]; have := HL.out; omega)
        rw [List.take_of_length_le (by have := HL.out; omega)] at this
        exact this
      clear hp
      have HD := Lib.hid hd; clear hd
      go_wp2
      go_ret
      exact ⟨_, _, rfl, hb, HD.out⟩


set_option maxHeartbeats 800000 in
set_option maxRecDepth 100000 in
theorem toDatabase (w : World) (cs : List Value) (x : DB) (fp : List Nat) (hx : EDB w cs x fp) (hsz : size_DB x ≤ 1048576) :
    Calls Try.prog 168 #[.agg cs.toArray] w (FreshC EDB w x) := by
  obtain ⟨v_rows, f_rows, rfl, h_rows, rfl⟩ := hx
  have H_rows := Lib.hid h_rows
  clear h_rows
  unfold size_DB at hsz
  have z_rows : (lsz List.length) x.rows ≤ 1048576 := by omega
  clear hsz
  go_enter Try.func168, Try.ntmps168
  go_wp2_with fail
  refine (toByteSS _ _ _ _ (Sl.agree (good_sl good_u8) H_rows.out (agree_below (B := w.heap.size) (by repeat (first | with_reducible exact Below.refl _ _ | refine Below.alloc ?_ (by simp <;> omega) _)) (Sl.lt (good_sl good_u8) H_rows.out))) z_rows).mono ?_
  rintro e w1 ⟨r_rows, g_rows, rfl, hb, hR⟩
  obtain ⟨oa_rows, n_rows, cap_rows, rfl⟩ := Sl.form hR.sl
  have hS := hR.sl; have hO := hR.own; clear hR
  have k0 : w1.heap[w.heap.size]? = some (.cells #[v_rows] 132 (0, 0)) := blk hb (alloc_old (alloc_old (alloc_top rfl)))
  have k1 : w1.heap[(w.heap.size + 1)]? = some (.cells #[.slice none 0 0] 71 (0, 0)) := blk hb (alloc_old (alloc_top (by simp)))
  have k2 : w1.heap[(w.heap.size + 1 + 1)]? = some (.cells #[.slice none 0 0] 71 (0, 0)) := blk hb (alloc_top (by simp))
  have hB1 : Below w.heap.size w w1 := Below.trans (by repeat (first | with_reducible exact Below.refl _ _ | refine Below.alloc ?_ (by simp <;> omega) _)) (hb.mono (by simp <;> omega))
  have hz1 : (w.heap.size + 1 + 1 + 1) ≤ w1.heap.size := by have := hb.size; simp at this; omega
  have hO1 := Lib.hid (show Own (w.heap.size + 1 + 1 + 1) w1 g_rows by simpa using hO)
  have R_rows := Lib.hid hS
  clear hb hS hO
  have c0 := cellB k0; have c1 := cellB k1; have f1 := frzB k1; have c2 := cellB k2; have f2 := frzB k2
  have K0 := Lib.hid k0; have K1 := Lib.hid k1; have K2 := Lib.hid k2; clear k0 k1 k2
  have HK2 : (w1.setCell ⟨(w.heap.size + 1 + 1), 0, none⟩ (.slice oa_rows n_rows cap_rows)).heap[(w.heap.size + 1 + 1)]? = some (.cells #[.slice oa_rows n_rows cap_rows] 71 (0, 0)) := ((setc_same K2.out)).trans (by kernel_rfl)
  have HK1 : (w1.setCell ⟨(w.heap.size + 1 + 1), 0, none⟩ (.slice oa_rows n_rows cap_rows)).heap[(w.heap.size + 1)]? = some (.cells #[.slice none 0 0] 71 (0, 0)) := (setc_other K1.out (by omega))
  have HR := Lib.hid (show World.rangeAt (w1.setCell ⟨(w.heap.size + 1 + 1), 0, none⟩ (.slice oa_rows n_rows cap_rows)) (w.heap.size + 1 + 1) 0 [.slice oa_rows n_rows cap_rows] from rangeB HK2)
  have HT := Lib.hid (show World.there (w1.setCell ⟨(w.heap.size + 1 + 1), 0, none⟩ (.slice oa_rows n_rows cap_rows)) (w.heap.size + 1) 0 1 from thereB HK1 0 1 (by simp))
  have HO := Lib.hid (show ∀ u, u ∈ ([.slice oa_rows n_rows cap_rows] : List Value) → u.oneCell' = true from (ones_cons rfl ones_nil))
  clear HK1 HK2
  go_wp2_with (first | ((with_reducible refine wpList_ld (op := ⟨some 8, _, _, _, _, _⟩) row_DB_impl HR.out rfl rfl rfl ?_ ?_); exact rfl) | ((with_reducible refine wpList_st (op := ⟨none, _, _, _, _, _⟩) row_DB_impl HT.out rfl HO.out rfl rfl ?_ ?_ ?_); exact rfl; exact rfl))
  refine bodyPost_ret (v := .agg #[.slice oa_rows n_rows cap_rows]) (results_cell rfl (w.heap.size + 1) rfl [.slice oa_rows n_rows cap_rows] (World.rangeAt_setCells_same _ _ _ _ HT.out) row_DB_impl rfl) rfl ?_
  have hA : Agree w1 ((w1.setCell ⟨(w.heap.size + 1 + 1), 0, none⟩ (.slice oa_rows n_rows cap_rows)).setCells (w.heap.size + 1) 0 [.slice oa_rows n_rows cap_rows]) (g_rows) := Agree.trans (Agree.trans (Agree.refl _ _) (agree_setc (hO1.out.ne (by omega)))) (agree_setcs (hO1.out.ne (by omega)))
  refine ⟨[.slice oa_rows n_rows cap_rows], g_rows, rfl, ?_, ?_, ?_⟩
  · exact below_setCells (a := w) (w := (w1.setCell ⟨(w.heap.size + 1 + 1), 0, none⟩ (.slice oa_rows n_rows cap_rows))) (g := (w.heap.size + 1)) (by repeat (first | with_reducible exact hB1 | refine Below.setCell ?_ (by simp <;> omega) _)) (by omega) 0 [.slice oa_rows n_rows cap_rows]
  · exact ⟨_, _, rfl, Sl.agree (good_sl good_u8) R_rows.out hA, rfl⟩
  · exact (hO1.out.agree hA).mono (by omega)


set_option maxHeartbeats 800000 in
set_option maxRecDepth 100000 in
theorem toReceivedShare (w : World) (cs : List Value) (x : RShare) (fp : List Nat) (hx : ERShare w cs x fp) (hsz : size_RShare x ≤ 1048576) :
    Calls Try.prog 166 #[.agg cs.toArray] w (FreshC ERShare w x) := by
  obtain ⟨_, _, rfl, ⟨v_share_rows, f_share_rows, rfl, h_share_rows, rfl⟩, rfl⟩ := hx
  have H_share : Hid (EDB w [v_share_rows] x.share _) := Lib.hid ⟨_, _, rfl, h_share_rows, rfl⟩
  clear h_share_rows
  unfold size_RShare at hsz
  have z_share : size_DB x.share ≤ 1048576 := by omega
  clear hsz
  go_enter Try.func166, Try.ntmps166
  go_wp2_with fail
  refine (toDatabase _ _ _ _ (good_DB.agree H_share.out (agree_below (B := w.heap.size) (by repeat (first | with_reducible exact Below.refl _ _ | refine Below.alloc ?_ (by simp <;> omega) _)) (good_DB.lt H_share.out))) z_share).mono ?_
  rintro e w1 ⟨rc_share, g_share, rfl, hb, hS, hO⟩
  have hS0 := hS
  obtain ⟨vr_share_rows, fr_share_rows, rfl, hr_share_rows, _⟩ := hS
  obtain ⟨oavr_share_rows, nvr_share_rows, capvr_share_rows, rfl⟩ := Sl.form hr_share_rows
  clear hr_share_rows
  have hS := hS0; clear hS0
  have k0 : w1.heap[w.heap.size]? = some (.cells #[.int .i64 x.client, v_share_rows] 158 (0, 0)) := blk hb (alloc_old (alloc_old (alloc_top rfl)))
  have k1 : w1.heap[(w.heap.size + 1)]? = some (.cells #[.int .i64 0, .slice none 0 0] 144 (0, 0)) := blk hb (alloc_old (alloc_top (by simp)))
  have k2 : w1.heap[(w.heap.size + 1 + 1)]? = some (.cells #[.int .i64 x.client, .slice none 0 0] 144 (0, 0)) := blk hb (alloc_top (by simp))
  have hB1 : Below w.heap.size w w1 := Below.trans (by repeat (first | with_reducible exact Below.refl _ _ | refine Below.alloc ?_ (by simp <;> omega) _)) (hb.mono (by simp <;> omega))
  have hz1 : (w.heap.size + 1 + 1 + 1) ≤ w1.heap.size := by have := hb.size; simp at this; omega
  have hO1 := Lib.hid (show Own (w.heap.size + 1 + 1 + 1) w1 g_share by simpa using hO)
  have R_share := Lib.hid hS
  clear hb hS hO
  have c0 := cellB k0; have c1 := cellB k1; have f1 := frzB k1; have c2 := cellB k2; have f2 := frzB k2
  have K0 := Lib.hid k0; have K1 := Lib.hid k1; have K2 := Lib.hid k2; clear k0 k1 k2
  have HK2 : (w1.setCell ⟨(w.heap.size + 1 + 1), 1, none⟩ (.slice oavr_share_rows nvr_share_rows capvr_share_rows)).heap[(w.heap.size + 1 + 1)]? = some (.cells #[.int .i64 x.client, .slice oavr_share_rows nvr_share_rows capvr_share_rows] 144 (0, 0)) := ((setc_same K2.out)).trans (by kernel_rfl)
  have HK1 : (w1.setCell ⟨(w.heap.size + 1 + 1), 1, none⟩ (.slice oavr_share_rows nvr_share_rows capvr_share_rows)).heap[(w.heap.size + 1)]? = some (.cells #[.int .i64 0, .slice none 0 0] 144 (0, 0)) := (setc_other K1.out (by omega))
  have HR := Lib.hid (show World.rangeAt (w1.setCell ⟨(w.heap.size + 1 + 1), 1, none⟩ (.slice oavr_share_rows nvr_share_rows capvr_share_rows)) (w.heap.size + 1 + 1) 0 [.int .i64 x.client, .slice oavr_share_rows nvr_share_rows capvr_share_rows] from rangeB HK2)
  have HT := Lib.hid (show World.there (w1.setCell ⟨(w.heap.size + 1 + 1), 1, none⟩ (.slice oavr_share_rows nvr_share_rows capvr_share_rows)) (w.heap.size + 1) 0 2 from thereB HK1 0 2 (by simp))
  have HO := Lib.hid (show ∀ u, u ∈ ([.int .i64 x.client, .slice oavr_share_rows nvr_share_rows capvr_share_rows] : List Value) → u.oneCell' = true from (ones_cons rfl (ones_cons rfl ones_nil)))
  clear HK1 HK2
  go_wp2_with (first | ((with_reducible refine wpList_ld (op := ⟨some 11, _, _, _, _, _⟩) row_RShare_impl HR.out rfl rfl rfl ?_ ?_); exact rfl) | ((with_reducible refine wpList_st (op := ⟨none, _, _, _, _, _⟩) row_RShare_impl HT.out rfl HO.out rfl rfl ?_ ?_ ?_); exact rfl; exact rfl))
  refine bodyPost_ret (v := .agg #[.int .i64 x.client, .slice oavr_share_rows nvr_share_rows capvr_share_rows]) (results_cell rfl (w.heap.size + 1) rfl [.int .i64 x.client, .slice oavr_share_rows nvr_share_rows capvr_share_rows] (World.rangeAt_setCells_same _ _ _ _ HT.out) row_RShare_impl rfl) rfl ?_
  have hA : Agree w1 ((w1.setCell ⟨(w.heap.size + 1 + 1), 1, none⟩ (.slice oavr_share_rows nvr_share_rows capvr_share_rows)).setCells (w.heap.size + 1) 0 [.int .i64 x.client, .slice oavr_share_rows nvr_share_rows capvr_share_rows]) (g_share) := Agree.trans (Agree.trans (Agree.refl _ _) (agree_setc (hO1.out.ne (by omega)))) (agree_setcs (hO1.out.ne (by omega)))
  refine ⟨[.int .i64 x.client, .slice oavr_share_rows nvr_share_rows capvr_share_rows], g_share, rfl, ?_, ?_, ?_⟩
  · exact below_setCells (a := w) (w := (w1.setCell ⟨(w.heap.size + 1 + 1), 1, none⟩ (.slice oavr_share_rows nvr_share_rows capvr_share_rows))) (g := (w.heap.size + 1)) (by repeat (first | with_reducible exact hB1 | refine Below.setCell ?_ (by simp <;> omega) _)) (by omega) 0 [.int .i64 x.client, .slice oavr_share_rows nvr_share_rows capvr_share_rows]
  · exact ⟨_, _, rfl, good_DB.agree R_share.out hA, rfl⟩
  · exact (hO1.out.agree hA).mono (by omega)


set_option maxHeartbeats 400000 in
set_option maxRecDepth 100000 in
theorem toReceivedShareS (w : World) (v : Value) (l : (List RShare)) (fp : List Nat) (h : Sl 2 ERShare w v l fp) (hsz : lsz size_RShare l ≤ 1048576) :
    Calls Try.prog 133 #[v] w (Fresh 2 ERShare 144 w l) := by
  have HX := Lib.hid h
  obtain ⟨oa, cap, rfl, hc, hm, _⟩ := h
  obtain ⟨n, hl⟩ : ∃ n, n = l.length := ⟨_, rfl⟩
  have hln : n ≤ 1048576 := by have := lsz_len hsz; omega
  rw [← hl] at hc HX ⊢
  have HL := Lib.hid hl; clear hl
  unfold maxLen at hm
  obtain ⟨ie, hi, hz0, hz1, hz2⟩ := info_parts infz_ReceivedShare_impl
  go_enter Try.func133, Try.ntmps133
  go_wp2_with (at_make; refine wpList_make_full _ rfl _ _ 79 rfl w.heap.size 144 ie _ 2 Try.underlying79 hi hz0 hz1 _ _ _ _ n rfl rfl rfl rfl (by rw [hz2]; omega) (by unfold maxLen; omega) (Nat.le_refl _) ?_)
  intro w1 hrow hgr
  have hp := Part.start (α := RShare) (E := ERShare) hrow
  have hb1 : Below w.heap.size w w1 := (Below.refl _ _).grown hgr (Nat.le_refl _) (by simp)
  have hz : w.heap.size < w1.heap.size := hp.own.lt _ (by simp)
  clear hrow hgr hz0 hz1 hz2 hi
  go_wp2_with fail
  go_loopw [4] (fun i wr => ∃ k : Nat, k ≤ n ∧ i = .int .i64 k ∧ ∃ fps, Part 2 ERShare w.heap.size 144 wr w.heap.size n (l.take k) fps ∧ Below w.heap.size w wr ∧ w.heap.size < wr.heap.size) (fun i _ => n - (intOf i).toNat)
  case atStart => exact ⟨0, by omega, rfl, [], by simpa using hp, hb1, hz⟩
  case round =>
    obtain ⟨k, hk, rfl, fps, hp, hb, hz⟩ := hrel
    by_cases hk2 : k < n
    · obtain ⟨x, hx⟩ := getE (l := l) (k := k) (by have := HL.out; omega)
      obtain ⟨b, off, f, cs, rfl, hr, hE, _⟩ := (Sl.below good_RShare HX.out hb).at hx
      have HY := Lib.hid hx
      have HP := Lib.hid hp
      have hlt := Lib.hid (show (l.take k).length = k by rw [List.length_take]; have := HL.out; omega)
      clear hx hp
      have hsx := lsz_mem hsz HY.out
      have HR := Lib.hid hr
      have hcs := Lib.hid (good_RShare.len hE)
      have HE := Lib.hid hE; clear hE hr
      go_wp2_with ((with_reducible refine wpList_ld (op := ⟨some 19, _, _, _, _, _⟩) row_RShare_laws HR.out hcs.out rfl rfl ?_ ?_); exact rfl)
      refine (toReceivedShare _ _ _ _ HE.out hsx).mono ?_
      rintro e w2 ⟨cs2, f2, rfl, hb2, hE2, hO2⟩
      have hp1 := HP.out.below good_RShare hb2
      have hb3 := hb.trans (hb2.mono (Nat.le_of_lt hz))
      have hz2 := hb2.size
      have hs2 := good_RShare.len hE2
      have HT := Lib.hid (hp1.there k hk2)
      have HS2 := Lib.hid hs2
      have HO := Lib.hid (good_RShare.one hE2)
      have hp2 := hp1.push good_RShare (by rw [hlt.out]; exact hk2) (f := f2) (x := x) (cs := cs2) hE2 (hO2.mono (Nat.le_of_lt hz)) (fun b hb hm => by have h1 := hO2.ge b hb; have h2 := HP.out.own.lt b hm; omega)
      rw [hlt.out] at hp2
      have HP3 : Hid (Part 2 ERShare w.heap.size 144 (w2.setCells w.heap.size (k * 2) cs2) w.heap.size n (l.take (k + 1)) (fps ++ [f2])) := Lib.hid (by
        rw [List.take_add_one, HY.out]; exact hp2)
      have HB2 := Lib.hid (below_setCells hb3 (Nat.le_refl _) (k * 2) cs2)
      have hz3 : w.heap.size < w2.heap.size := by omega
      clear hp2 hp1 hb3 hE2 hO2 hb2 hz2 hs2
      go_wp2_with ((with_reducible refine wpList_st (op := ⟨none, _, _, _, _, _⟩) row_RShare_impl HT.out HS2.out HO.out rfl rfl ?_ ?_ ?_); exact rfl; exact rfl)
      go_wp2_with fail
      go_roundw
      case rel => exact ⟨k + 1, by omega, by go_num, _, HP3.out, HB2.out, by rw [setCells_size]; exact hz3⟩
      case measure => simp [intOf]; omega
    · have hkn : k = n := by omega
      subst hkn
      have hd : Bld 2 ERShare w.heap.size 144 wr (.slice (some ⟨w.heap.size, 0, none⟩) k k) l (w.heap.size :: fps.flatten) := by
        have := hp.done good_RShare (by rw [List.length_take]; have := HL.out; omega)
        rw [List.take_of_length_le (by have := HL.out; omega)] at this
        exact this
      clear hp
      have HD := Lib.hid hd; clear hd
      go_wp2
      go_ret
      exact ⟨_, _, rfl, hb, HD.out⟩


set_option maxHeartbeats 800000 in
set_option maxRecDepth 100000 in
theorem toServer (w : World) (cs : List Value) (x : Srv) (fp : List Nat) (hx : ESrv w cs x fp) (hsz : size_Srv x ≤ 1048576) :
    Calls Try.prog 96 #[.agg cs.toArray] w (FreshC ESrv w x) := by
  obtain ⟨v_received, f_received, rfl, h_received, rfl⟩ := hx
  have H_received := Lib.hid h_received
  clear h_received
  unfold size_Srv at hsz
  have z_received : (lsz size_RShare) x.received ≤ 1048576 := by omega
  clear hsz
  go_enter Try.func96, Try.ntmps96
  go_wp2_with fail
  refine (toReceivedShareS _ _ _ _ (Sl.agree good_RShare H_received.out (agree_below (B := w.heap.size) (by repeat (first | with_reducible exact Below.refl _ _ | refine Below.alloc ?_ (by simp <;> omega) _)) (Sl.lt good_RShare H_received.out))) z_received).mono ?_
  rintro e w1 ⟨r_received, g_received, rfl, hb, hR⟩
  obtain ⟨oa_received, n_received, cap_received, rfl⟩ := Sl.form hR.sl
  have hS := hR.sl; have hO := hR.own; clear hR
  have k0 : w1.heap[w.heap.size]? = some (.cells #[.int .i64 x.id, .int .i64 x.rows, .int .i64 x.round, v_received, .int .i64 x.behavior] 96 (0, 0)) := blk hb (alloc_old (alloc_old (alloc_top rfl)))
  have k1 : w1.heap[(w.heap.size + 1)]? = some (.cells #[.int .i64 0, .int .i64 0, .int .i64 0, .slice none 0 0, .int .i64 0] 81 (0, 0)) := blk hb (alloc_old (alloc_top (by simp)))
  have k2 : w1.heap[(w.heap.size + 1 + 1)]? = some (.cells #[.int .i64 x.id, .int .i64 x.rows, .int .i64 x.round, .slice none 0 0, .int .i64 0] 81 (0, 0)) := blk hb (alloc_top (by simp))
  have hB1 : Below w.heap.size w w1 := Below.trans (by repeat (first | with_reducible exact Below.refl _ _ | refine Below.alloc ?_ (by simp <;> omega) _)) (hb.mono (by simp <;> omega))
  have hz1 : (w.heap.size + 1 + 1 + 1) ≤ w1.heap.size := by have := hb.size; simp at this; omega
  have hO1 := Lib.hid (show Own (w.heap.size + 1 + 1 + 1) w1 g_received by simpa using hO)
  have R_received := Lib.hid hS
  clear hb hS hO
  have c0 := cellB k0; have c1 := cellB k1; have f1 := frzB k1; have c2 := cellB k2; have f2 := frzB k2
  have K0 := Lib.hid k0; have K1 := Lib.hid k1; have K2 := Lib.hid k2; clear k0 k1 k2
  have HK2 : ((w1.setCell ⟨(w.heap.size + 1 + 1), 3, none⟩ (.slice oa_received n_received cap_received)).setCell ⟨(w.heap.size + 1 + 1), 4, none⟩ (.int .i64 x.behavior)).heap[(w.heap.size + 1 + 1)]? = some (.cells #[.int .i64 x.id, .int .i64 x.rows, .int .i64 x.round, .slice oa_received n_received cap_received, .int .i64 x.behavior] 81 (0, 0)) := ((setc_same (setc_same K2.out))).trans (by kernel_rfl)
  have HK1 : ((w1.setCell ⟨(w.heap.size + 1 + 1), 3, none⟩ (.slice oa_received n_received cap_received)).setCell ⟨(w.heap.size + 1 + 1), 4, none⟩ (.int .i64 x.behavior)).heap[(w.heap.size + 1)]? = some (.cells #[.int .i64 0, .int .i64 0, .int .i64 0, .slice none 0 0, .int .i64 0] 81 (0, 0)) := (setc_other (setc_other K1.out (by omega)) (by omega))
  have HR := Lib.hid (show World.rangeAt ((w1.setCell ⟨(w.heap.size + 1 + 1), 3, none⟩ (.slice oa_received n_received cap_received)).setCell ⟨(w.heap.size + 1 + 1), 4, none⟩ (.int .i64 x.behavior)) (w.heap.size + 1 + 1) 0 [.int .i64 x.id, .int .i64 x.rows, .int .i64 x.round, .slice oa_received n_received cap_received, .int .i64 x.behavior] from rangeB HK2)
  have HT := Lib.hid (show World.there ((w1.setCell ⟨(w.heap.size + 1 + 1), 3, none⟩ (.slice oa_received n_received cap_received)).setCell ⟨(w.heap.size + 1 + 1), 4, none⟩ (.int .i64 x.behavior)) (w.heap.size + 1) 0 5 from thereB HK1 0 5 (by simp))
  have HO := Lib.hid (show ∀ u, u ∈ ([.int .i64 x.id, .int .i64 x.rows, .int .i64 x.round, .slice oa_received n_received cap_received, .int .i64 x.behavior] : List Value) → u.oneCell' = true from (ones_cons rfl (ones_cons rfl (ones_cons rfl (ones_cons rfl (ones_cons rfl ones_nil))))))
  clear HK1 HK2
  go_wp2_with (first | ((with_reducible refine wpList_ld (op := ⟨some 20, _, _, _, _, _⟩) row_Srv_impl HR.out rfl rfl rfl ?_ ?_); exact rfl) | ((with_reducible refine wpList_st (op := ⟨none, _, _, _, _, _⟩) row_Srv_impl HT.out rfl HO.out rfl rfl ?_ ?_ ?_); exact rfl; exact rfl))
  refine bodyPost_ret (v := .agg #[.int .i64 x.id, .int .i64 x.rows, .int .i64 x.round, .slice oa_received n_received cap_received, .int .i64 x.behavior]) (results_cell rfl (w.heap.size + 1) rfl [.int .i64 x.id, .int .i64 x.rows, .int .i64 x.round, .slice oa_received n_received cap_received, .int .i64 x.behavior] (World.rangeAt_setCells_same _ _ _ _ HT.out) row_Srv_impl rfl) rfl ?_
  have hA : Agree w1 (((w1.setCell ⟨(w.heap.size + 1 + 1), 3, none⟩ (.slice oa_received n_received cap_received)).setCell ⟨(w.heap.size + 1 + 1), 4, none⟩ (.int .i64 x.behavior)).setCells (w.heap.size + 1) 0 [.int .i64 x.id, .int .i64 x.rows, .int .i64 x.round, .slice oa_received n_received cap_received, .int .i64 x.behavior]) (g_received) := Agree.trans (Agree.trans (Agree.trans (Agree.refl _ _) (agree_setc (hO1.out.ne (by omega)))) (agree_setc (hO1.out.ne (by omega)))) (agree_setcs (hO1.out.ne (by omega)))
  refine ⟨[.int .i64 x.id, .int .i64 x.rows, .int .i64 x.round, .slice oa_received n_received cap_received, .int .i64 x.behavior], g_received, rfl, ?_, ?_, ?_⟩
  · exact below_setCells (a := w) (w := ((w1.setCell ⟨(w.heap.size + 1 + 1), 3, none⟩ (.slice oa_received n_received cap_received)).setCell ⟨(w.heap.size + 1 + 1), 4, none⟩ (.int .i64 x.behavior))) (g := (w.heap.size + 1)) (by repeat (first | with_reducible exact hB1 | refine Below.setCell ?_ (by simp <;> omega) _)) (by omega) 0 [.int .i64 x.id, .int .i64 x.rows, .int .i64 x.round, .slice oa_received n_received cap_received, .int .i64 x.behavior]
  · exact ⟨_, _, rfl, Sl.agree good_RShare R_received.out hA, rfl⟩
  · exact (hO1.out.agree hA).mono (by omega)


set_option maxHeartbeats 800000 in
set_option maxRecDepth 100000 in
theorem toArchivedRound (w : World) (cs : List Value) (x : ARound) (fp : List Nat) (hx : EARound w cs x fp) (hsz : size_ARound x ≤ 1048576) :
    Calls Try.prog 135 #[.agg cs.toArray] w (FreshC EARound w x) := by
  obtain ⟨_, _, rfl, ⟨v_db_rows, f_db_rows, rfl, h_db_rows, rfl⟩, rfl⟩ := hx
  have H_db : Hid (EDB w [v_db_rows] x.db _) := Lib.hid ⟨_, _, rfl, h_db_rows, rfl⟩
  clear h_db_rows
  unfold size_ARound at hsz
  have z_db : size_DB x.db ≤ 1048576 := by omega
  clear hsz
  go_enter Try.func135, Try.ntmps135
  go_wp2_with fail
  refine (toDatabase _ _ _ _ (good_DB.agree H_db.out (agree_below (B := w.heap.size) (by repeat (first | with_reducible exact Below.refl _ _ | refine Below.alloc ?_ (by simp <;> omega) _)) (good_DB.lt H_db.out))) z_db).mono ?_
  rintro e w1 ⟨rc_db, g_db, rfl, hb, hS, hO⟩
  have hS0 := hS
  obtain ⟨vr_db_rows, fr_db_rows, rfl, hr_db_rows, _⟩ := hS
  obtain ⟨oavr_db_rows, nvr_db_rows, capvr_db_rows, rfl⟩ := Sl.form hr_db_rows
  clear hr_db_rows
  have hS := hS0; clear hS0
  have k0 : w1.heap[w.heap.size]? = some (.cells #[.int .i64 x.round, v_db_rows] 134 (0, 0)) := blk hb (alloc_old (alloc_old (alloc_top rfl)))
  have k1 : w1.heap[(w.heap.size + 1)]? = some (.cells #[.int .i64 0, .slice none 0 0] 73 (0, 0)) := blk hb (alloc_old (alloc_top (by simp)))
  have k2 : w1.heap[(w.heap.size + 1 + 1)]? = some (.cells #[.int .i64 x.round, .slice none 0 0] 73 (0, 0)) := blk hb (alloc_top (by simp))
  have hB1 : Below w.heap.size w w1 := Below.trans (by repeat (first | with_reducible exact Below.refl _ _ | refine Below.alloc ?_ (by simp <;> omega) _)) (hb.mono (by simp <;> omega))
  have hz1 : (w.heap.size + 1 + 1 + 1) ≤ w1.heap.size := by have := hb.size; simp at this; omega
  have hO1 := Lib.hid (show Own (w.heap.size + 1 + 1 + 1) w1 g_db by simpa using hO)
  have R_db := Lib.hid hS
  clear hb hS hO
  have c0 := cellB k0; have c1 := cellB k1; have f1 := frzB k1; have c2 := cellB k2; have f2 := frzB k2
  have K0 := Lib.hid k0; have K1 := Lib.hid k1; have K2 := Lib.hid k2; clear k0 k1 k2
  have HK2 : (w1.setCell ⟨(w.heap.size + 1 + 1), 1, none⟩ (.slice oavr_db_rows nvr_db_rows capvr_db_rows)).heap[(w.heap.size + 1 + 1)]? = some (.cells #[.int .i64 x.round, .slice oavr_db_rows nvr_db_rows capvr_db_rows] 73 (0, 0)) := ((setc_same K2.out)).trans (by kernel_rfl)
  have HK1 : (w1.setCell ⟨(w.heap.size + 1 + 1), 1, none⟩ (.slice oavr_db_rows nvr_db_rows capvr_db_rows)).heap[(w.heap.size + 1)]? = some (.cells #[.int .i64 0, .slice none 0 0] 73 (0, 0)) := (setc_other K1.out (by omega))
  have HR := Lib.hid (show World.rangeAt (w1.setCell ⟨(w.heap.size + 1 + 1), 1, none⟩ (.slice oavr_db_rows nvr_db_rows capvr_db_rows)) (w.heap.size + 1 + 1) 0 [.int .i64 x.round, .slice oavr_db_rows nvr_db_rows capvr_db_rows] from rangeB HK2)
  have HT := Lib.hid (show World.there (w1.setCell ⟨(w.heap.size + 1 + 1), 1, none⟩ (.slice oavr_db_rows nvr_db_rows capvr_db_rows)) (w.heap.size + 1) 0 2 from thereB HK1 0 2 (by simp))
  have HO := Lib.hid (show ∀ u, u ∈ ([.int .i64 x.round, .slice oavr_db_rows nvr_db_rows capvr_db_rows] : List Value) → u.oneCell' = true from (ones_cons rfl (ones_cons rfl ones_nil)))
  clear HK1 HK2
  go_wp2_with (first | ((with_reducible refine wpList_ld (op := ⟨some 11, _, _, _, _, _⟩) row_ARound_impl HR.out rfl rfl rfl ?_ ?_); exact rfl) | ((with_reducible refine wpList_st (op := ⟨none, _, _, _, _, _⟩) row_ARound_impl HT.out rfl HO.out rfl rfl ?_ ?_ ?_); exact rfl; exact rfl))
  refine bodyPost_ret (v := .agg #[.int .i64 x.round, .slice oavr_db_rows nvr_db_rows capvr_db_rows]) (results_cell rfl (w.heap.size + 1) rfl [.int .i64 x.round, .slice oavr_db_rows nvr_db_rows capvr_db_rows] (World.rangeAt_setCells_same _ _ _ _ HT.out) row_ARound_impl rfl) rfl ?_
  have hA : Agree w1 ((w1.setCell ⟨(w.heap.size + 1 + 1), 1, none⟩ (.slice oavr_db_rows nvr_db_rows capvr_db_rows)).setCells (w.heap.size + 1) 0 [.int .i64 x.round, .slice oavr_db_rows nvr_db_rows capvr_db_rows]) (g_db) := Agree.trans (Agree.trans (Agree.refl _ _) (agree_setc (hO1.out.ne (by omega)))) (agree_setcs (hO1.out.ne (by omega)))
  refine ⟨[.int .i64 x.round, .slice oavr_db_rows nvr_db_rows capvr_db_rows], g_db, rfl, ?_, ?_, ?_⟩
  · exact below_setCells (a := w) (w := (w1.setCell ⟨(w.heap.size + 1 + 1), 1, none⟩ (.slice oavr_db_rows nvr_db_rows capvr_db_rows))) (g := (w.heap.size + 1)) (by repeat (first | with_reducible exact hB1 | refine Below.setCell ?_ (by simp <;> omega) _)) (by omega) 0 [.int .i64 x.round, .slice oavr_db_rows nvr_db_rows capvr_db_rows]
  · exact ⟨_, _, rfl, good_DB.agree R_db.out hA, rfl⟩
  · exact (hO1.out.agree hA).mono (by omega)


set_option maxHeartbeats 400000 in
set_option maxRecDepth 100000 in
theorem toArchivedRoundS (w : World) (v : Value) (l : (List ARound)) (fp : List Nat) (h : Sl 2 EARound w v l fp) (hsz : lsz size_ARound l ≤ 1048576) :
    Calls Try.prog 98 #[v] w (Fresh 2 EARound 73 w l) := by
  have HX := Lib.hid h
  obtain ⟨oa, cap, rfl, hc, hm, _⟩ := h
  obtain ⟨n, hl⟩ : ∃ n, n = l.length := ⟨_, rfl⟩
  have hln : n ≤ 1048576 := by have := lsz_len hsz; omega
  rw [← hl] at hc HX ⊢
  have HL := Lib.hid hl; clear hl
  unfold maxLen at hm
  obtain ⟨ie, hi, hz0, hz1, hz2⟩ := info_parts infz_ArchivedRound_impl
  go_enter Try.func98, Try.ntmps98
  go_wp2_with (at_make; refine wpList_make_full _ rfl _ _ 34 rfl w.heap.size 73 ie _ 2 Try.underlying34 hi hz0 hz1 _ _ _ _ n rfl rfl rfl rfl (by rw [hz2]; omega) (by unfold maxLen; omega) (Nat.le_refl _) ?_)
  intro w1 hrow hgr
  have hp := Part.start (α := ARound) (E := EARound) hrow
  have hb1 : Below w.heap.size w w1 := (Below.refl _ _).grown hgr (Nat.le_refl _) (by simp)
  have hz : w.heap.size < w1.heap.size := hp.own.lt _ (by simp)
  clear hrow hgr hz0 hz1 hz2 hi
  go_wp2_with fail
  go_loopw [4] (fun i wr => ∃ k : Nat, k ≤ n ∧ i = .int .i64 k ∧ ∃ fps, Part 2 EARound w.heap.size 73 wr w.heap.size n (l.take k) fps ∧ Below w.heap.size w wr ∧ w.heap.size < wr.heap.size) (fun i _ => n - (intOf i).toNat)
  case atStart => exact ⟨0, by omega, rfl, [], by simpa using hp, hb1, hz⟩
  case round =>
    obtain ⟨k, hk, rfl, fps, hp, hb, hz⟩ := hrel
    by_cases hk2 : k < n
    · obtain ⟨x, hx⟩ := getE (l := l) (k := k) (by have := HL.out; omega)
      obtain ⟨b, off, f, cs, rfl, hr, hE, _⟩ := (Sl.below good_ARound HX.out hb).at hx
      have HY := Lib.hid hx
      have HP := Lib.hid hp
      have hlt := Lib.hid (show (l.take k).length = k by rw [List.length_take]; have := HL.out; omega)
      clear hx hp
      have hsx := lsz_mem hsz HY.out
      have HR := Lib.hid hr
      have hcs := Lib.hid (good_ARound.len hE)
      have HE := Lib.hid hE; clear hE hr
      go_wp2_with ((with_reducible refine wpList_ld (op := ⟨some 19, _, _, _, _, _⟩) row_ARound_laws HR.out hcs.out rfl rfl ?_ ?_); exact rfl)
      refine (toArchivedRound _ _ _ _ HE.out hsx).mono ?_
      rintro e w2 ⟨cs2, f2, rfl, hb2, hE2, hO2⟩
      have hp1 := HP.out.below good_ARound hb2
      have hb3 := hb.trans (hb2.mono (Nat.le_of_lt hz))
      have hz2 := hb2.size
      have hs2 := good_ARound.len hE2
      have HT := Lib.hid (hp1.there k hk2)
      have HS2 := Lib.hid hs2
      have HO := Lib.hid (good_ARound.one hE2)
      have hp2 := hp1.push good_ARound (by rw [hlt.out]; exact hk2) (f := f2) (x := x) (cs := cs2) hE2 (hO2.mono (Nat.le_of_lt hz)) (fun b hb hm => by have h1 := hO2.ge b hb; have h2 := HP.out.own.lt b hm; omega)
      rw [hlt.out] at hp2
      have HP3 : Hid (Part 2 EARound w.heap.size 73 (w2.setCells w.heap.size (k * 2) cs2) w.heap.size n (l.take (k + 1)) (fps ++ [f2])) := Lib.hid (by
        rw [List.take_add_one, HY.out]; exact hp2)
      have HB2 := Lib.hid (below_setCells hb3 (Nat.le_refl _) (k * 2) cs2)
      have hz3 : w.heap.size < w2.heap.size := by omega
      clear hp2 hp1 hb3 hE2 hO2 hb2 hz2 hs2
      go_wp2_with ((with_reducible refine wpList_st (op := ⟨none, _, _, _, _, _⟩) row_ARound_impl HT.out HS2.out HO.out rfl rfl ?_ ?_ ?_); exact rfl; exact rfl)
      go_wp2_with fail
      go_roundw
      case rel => exact ⟨k + 1, by omega, by go_num, _, HP3.out, HB2.out, by rw [setCells_size]; exact hz3⟩
      case measure => simp [intOf]; omega
    · have hkn : k = n := by omega
      subst hkn
      have hd : Bld 2 EARound w.heap.size 73 wr (.slice (some ⟨w.heap.size, 0, none⟩) k k) l (w.heap.size :: fps.flatten) := by
        have := hp.done good_ARound (by rw [List.length_take]; have := HL.out; omega)
        rw [List.take_of_length_le (by have := HL.out; omega)] at this
        exact this
      clear hp
      have HD := Lib.hid hd; clear hd
      go_wp2
      go_ret
      exact ⟨_, _, rfl, hb, HD.out⟩


set_option maxHeartbeats 800000 in
set_option maxRecDepth 100000 in
theorem toArchive (w : World) (cs : List Value) (x : Arc) (fp : List Nat) (hx : EArc w cs x fp) (hsz : size_Arc x ≤ 1048576) :
    Calls Try.prog 55 #[.agg cs.toArray] w (FreshC EArc w x) := by
  obtain ⟨v_rounds, f_rounds, rfl, h_rounds, rfl⟩ := hx
  have H_rounds := Lib.hid h_rounds
  clear h_rounds
  unfold size_Arc at hsz
  have z_rounds : (lsz size_ARound) x.rounds ≤ 1048576 := by omega
  clear hsz
  go_enter Try.func55, Try.ntmps55
  go_wp2_with fail
  refine (toArchivedRoundS _ _ _ _ (Sl.agree good_ARound H_rounds.out (agree_below (B := w.heap.size) (by repeat (first | with_reducible exact Below.refl _ _ | refine Below.alloc ?_ (by simp <;> omega) _)) (Sl.lt good_ARound H_rounds.out))) z_rounds).mono ?_
  rintro e w1 ⟨r_rounds, g_rounds, rfl, hb, hR⟩
  obtain ⟨oa_rounds, n_rounds, cap_rounds, rfl⟩ := Sl.form hR.sl
  have hS := hR.sl; have hO := hR.own; clear hR
  have k0 : w1.heap[w.heap.size]? = some (.cells #[.int .i64 x.rows, v_rounds] 26 (0, 0)) := blk hb (alloc_old (alloc_old (alloc_top rfl)))
  have k1 : w1.heap[(w.heap.size + 1)]? = some (.cells #[.int .i64 0, .slice none 0 0] 36 (0, 0)) := blk hb (alloc_old (alloc_top (by simp)))
  have k2 : w1.heap[(w.heap.size + 1 + 1)]? = some (.cells #[.int .i64 x.rows, .slice none 0 0] 36 (0, 0)) := blk hb (alloc_top (by simp))
  have hB1 : Below w.heap.size w w1 := Below.trans (by repeat (first | with_reducible exact Below.refl _ _ | refine Below.alloc ?_ (by simp <;> omega) _)) (hb.mono (by simp <;> omega))
  have hz1 : (w.heap.size + 1 + 1 + 1) ≤ w1.heap.size := by have := hb.size; simp at this; omega
  have hO1 := Lib.hid (show Own (w.heap.size + 1 + 1 + 1) w1 g_rounds by simpa using hO)
  have R_rounds := Lib.hid hS
  clear hb hS hO
  have c0 := cellB k0; have c1 := cellB k1; have f1 := frzB k1; have c2 := cellB k2; have f2 := frzB k2
  have K0 := Lib.hid k0; have K1 := Lib.hid k1; have K2 := Lib.hid k2; clear k0 k1 k2
  have HK2 : (w1.setCell ⟨(w.heap.size + 1 + 1), 1, none⟩ (.slice oa_rounds n_rounds cap_rounds)).heap[(w.heap.size + 1 + 1)]? = some (.cells #[.int .i64 x.rows, .slice oa_rounds n_rounds cap_rounds] 36 (0, 0)) := ((setc_same K2.out)).trans (by kernel_rfl)
  have HK1 : (w1.setCell ⟨(w.heap.size + 1 + 1), 1, none⟩ (.slice oa_rounds n_rounds cap_rounds)).heap[(w.heap.size + 1)]? = some (.cells #[.int .i64 0, .slice none 0 0] 36 (0, 0)) := (setc_other K1.out (by omega))
  have HR := Lib.hid (show World.rangeAt (w1.setCell ⟨(w.heap.size + 1 + 1), 1, none⟩ (.slice oa_rounds n_rounds cap_rounds)) (w.heap.size + 1 + 1) 0 [.int .i64 x.rows, .slice oa_rounds n_rounds cap_rounds] from rangeB HK2)
  have HT := Lib.hid (show World.there (w1.setCell ⟨(w.heap.size + 1 + 1), 1, none⟩ (.slice oa_rounds n_rounds cap_rounds)) (w.heap.size + 1) 0 2 from thereB HK1 0 2 (by simp))
  have HO := Lib.hid (show ∀ u, u ∈ ([.int .i64 x.rows, .slice oa_rounds n_rounds cap_rounds] : List Value) → u.oneCell' = true from (ones_cons rfl (ones_cons rfl ones_nil)))
  clear HK1 HK2
  go_wp2_with (first | ((with_reducible refine wpList_ld (op := ⟨some 11, _, _, _, _, _⟩) row_Arc_impl HR.out rfl rfl rfl ?_ ?_); exact rfl) | ((with_reducible refine wpList_st (op := ⟨none, _, _, _, _, _⟩) row_Arc_impl HT.out rfl HO.out rfl rfl ?_ ?_ ?_); exact rfl; exact rfl))
  refine bodyPost_ret (v := .agg #[.int .i64 x.rows, .slice oa_rounds n_rounds cap_rounds]) (results_cell rfl (w.heap.size + 1) rfl [.int .i64 x.rows, .slice oa_rounds n_rounds cap_rounds] (World.rangeAt_setCells_same _ _ _ _ HT.out) row_Arc_impl rfl) rfl ?_
  have hA : Agree w1 ((w1.setCell ⟨(w.heap.size + 1 + 1), 1, none⟩ (.slice oa_rounds n_rounds cap_rounds)).setCells (w.heap.size + 1) 0 [.int .i64 x.rows, .slice oa_rounds n_rounds cap_rounds]) (g_rounds) := Agree.trans (Agree.trans (Agree.refl _ _) (agree_setc (hO1.out.ne (by omega)))) (agree_setcs (hO1.out.ne (by omega)))
  refine ⟨[.int .i64 x.rows, .slice oa_rounds n_rounds cap_rounds], g_rounds, rfl, ?_, ?_, ?_⟩
  · exact below_setCells (a := w) (w := (w1.setCell ⟨(w.heap.size + 1 + 1), 1, none⟩ (.slice oa_rounds n_rounds cap_rounds))) (g := (w.heap.size + 1)) (by repeat (first | with_reducible exact hB1 | refine Below.setCell ?_ (by simp <;> omega) _)) (by omega) 0 [.int .i64 x.rows, .slice oa_rounds n_rounds cap_rounds]
  · exact ⟨_, _, rfl, Sl.agree good_ARound R_rounds.out hA, rfl⟩
  · exact (hO1.out.agree hA).mono (by omega)


set_option maxHeartbeats 800000 in
set_option maxRecDepth 100000 in
theorem toClient (w : World) (cs : List Value) (x : Cli) (fp : List Nat) (hx : ECli w cs x fp) (hsz : size_Cli x ≤ 1048576) :
    Calls Try.prog 134 #[.agg cs.toArray] w (FreshC ECli w x) := by
  obtain ⟨v_submitted, v_inbox, f_submitted, f_inbox, rfl, h_submitted, h_inbox, rfl⟩ := hx
  have H_submitted := Lib.hid h_submitted
  have H_inbox := Lib.hid h_inbox
  clear h_submitted h_inbox
  unfold size_Cli at hsz
  have z_submitted : (lsz List.length) x.submitted ≤ 1048576 := by omega
  have z_inbox : (lsz List.length) x.inbox ≤ 1048576 := by omega
  clear hsz
  go_enter Try.func134, Try.ntmps134
  go_wp2_with fail
  refine (toByteSS _ _ _ _ (Sl.agree (good_sl good_u8) H_submitted.out (agree_below (B := w.heap.size) (by repeat (first | with_reducible exact Below.refl _ _ | refine Below.alloc ?_ (by simp <;> omega) _)) (Sl.lt (good_sl good_u8) H_submitted.out))) z_submitted).mono ?_
  rintro e w1 ⟨r_submitted, g_submitted, rfl, hb, hR⟩
  obtain ⟨oa_submitted, n_submitted, cap_submitted, rfl⟩ := Sl.form hR.sl
  have hS := hR.sl; have hO := hR.own; clear hR
  have k0 : w1.heap[w.heap.size]? = some (.cells #[.int .i64 x.id, .int .i64 x.friend, .int .i64 x.key, .int .i64 x.seed, v_submitted, .int .i64 x.sent, v_inbox, .int .i64 x.next] 98 (0, 0)) := blk hb (alloc_old (alloc_old (alloc_top rfl)))
  have k1 : w1.heap[(w.heap.size + 1)]? = some (.cells #[.int .i64 0, .int .i64 0, .int .i64 0, .int .i64 0, .slice none 0 0, .int .i64 0, .slice none 0 0, .int .i64 0] 66 (0, 0)) := blk hb (alloc_old (alloc_top (by simp)))
  have k2 : w1.heap[(w.heap.size + 1 + 1)]? = some (.cells #[.int .i64 x.id, .int .i64 x.friend, .int .i64 x.key, .int .i64 x.seed, .slice none 0 0, .int .i64 0, .slice none 0 0, .int .i64 0] 66 (0, 0)) := blk hb (alloc_top (by simp))
  have hB1 : Below w.heap.size w w1 := Below.trans (by repeat (first | with_reducible exact Below.refl _ _ | refine Below.alloc ?_ (by simp <;> omega) _)) (hb.mono (by simp <;> omega))
  have hz1 : (w.heap.size + 1 + 1 + 1) ≤ w1.heap.size := by have := hb.size; simp at this; omega
  have hO1 := Lib.hid (show Own (w.heap.size + 1 + 1 + 1) w1 g_submitted by simpa using hO)
  have R_submitted := Lib.hid hS
  clear hb hS hO
  have c0 := cellB k0; have c1 := cellB k1; have f1 := frzB k1; have c2 := cellB k2; have f2 := frzB k2
  have K0 := Lib.hid k0; have K1 := Lib.hid k1; have K2 := Lib.hid k2; clear k0 k1 k2
  go_wp2_with fail
  have hW : ∀ W, Below w.heap.size w W → Sl 1 (ESl 1 EU8) W _ x.inbox _ := fun W hb => Sl.agree (good_sl good_u8) H_inbox.out (agree_below (B := w.heap.size) hb (Sl.lt (good_sl good_u8) H_inbox.out))
  have HW := Lib.hid hW; clear hW
  refine (toByteSS _ _ _ _ (HW.out _ ?hbel1) z_inbox).mono ?_
  case hbel1 => repeat (first | with_reducible exact hB1 | refine Below.setCell ?_ (by simp <;> omega) _)
  rintro e w2 ⟨r_inbox, g_inbox, rfl, hb, hR⟩
  obtain ⟨oa_inbox, n_inbox, cap_inbox, rfl⟩ := Sl.form hR.sl
  have hS := hR.sl; have hO := hR.own; clear hR
  have k0 : w2.heap[w.heap.size]? = some (.cells #[.int .i64 x.id, .int .i64 x.friend, .int .i64 x.key, .int .i64 x.seed, v_submitted, .int .i64 x.sent, v_inbox, .int .i64 x.next] 98 (0, 0)) := blk hb (setc_other (setc_other K0.out (by omega)) (by omega))
  have k1 : w2.heap[(w.heap.size + 1)]? = some (.cells #[.int .i64 0, .int .i64 0, .int .i64 0, .int .i64 0, .slice none 0 0, .int .i64 0, .slice none 0 0, .int .i64 0] 66 (0, 0)) := blk hb (setc_other (setc_other K1.out (by omega)) (by omega))
  have k2 : w2.heap[(w.heap.size + 1 + 1)]? = some (.cells #[.int .i64 x.id, .int .i64 x.friend, .int .i64 x.key, .int .i64 x.seed, .slice oa_submitted n_submitted cap_submitted, .int .i64 x.sent, .slice none 0 0, .int .i64 0] 66 (0, 0)) := (blk hb (setc_same (setc_same K2.out))).trans (by kernel_rfl)
  have hB2 : Below w.heap.size w w2 := Below.trans (by repeat (first | with_reducible exact hB1 | refine Below.setCell ?_ (by simp <;> omega) _)) (hb.mono (by simp [World.setCell]; omega))
  have hz2 : (w.heap.size + 1 + 1 + 1) ≤ w2.heap.size := by have := hb.size; simp [World.setCell] at this; omega
  have hA : Agree w1 w2 (g_submitted) := Agree.trans (Agree.trans (Agree.trans (Agree.refl _ _) (agree_setc (hO1.out.ne (by omega)))) (agree_setc (hO1.out.ne (by omega)))) (agree_below hb (fun b h => by have := hO1.out.lt b h; simp [World.setCell]; exact this))
  have R_submitted := Lib.hid (Sl.agree (good_sl good_u8) R_submitted.out hA)
  have hO2 := Lib.hid (Own.app (hO1.out.agree hA) hO1.out.lt (show Own w1.heap.size w2 g_inbox by simpa [World.setCell] using hO) hz1)
  have R_inbox := Lib.hid hS
  clear hb hS hO hA
  have c0 := cellB k0; have c1 := cellB k1; have f1 := frzB k1; have c2 := cellB k2; have f2 := frzB k2
  have K0 := Lib.hid k0; have K1 := Lib.hid k1; have K2 := Lib.hid k2; clear k0 k1 k2
  have HK2 : ((w2.setCell ⟨(w.heap.size + 1 + 1), 6, none⟩ (.slice oa_inbox n_inbox cap_inbox)).setCell ⟨(w.heap.size + 1 + 1), 7, none⟩ (.int .i64 x.next)).heap[(w.heap.size + 1 + 1)]? = some (.cells #[.int .i64 x.id, .int .i64 x.friend, .int .i64 x.key, .int .i64 x.seed, .slice oa_submitted n_submitted cap_submitted, .int .i64 x.sent, .slice oa_inbox n_inbox cap_inbox, .int .i64 x.next] 66 (0, 0)) := ((setc_same (setc_same K2.out))).trans (by kernel_rfl)
  have HK1 : ((w2.setCell ⟨(w.heap.size + 1 + 1), 6, none⟩ (.slice oa_inbox n_inbox cap_inbox)).setCell ⟨(w.heap.size + 1 + 1), 7, none⟩ (.int .i64 x.next)).heap[(w.heap.size + 1)]? = some (.cells #[.int .i64 0, .int .i64 0, .int .i64 0, .int .i64 0, .slice none 0 0, .int .i64 0, .slice none 0 0, .int .i64 0] 66 (0, 0)) := (setc_other (setc_other K1.out (by omega)) (by omega))
  have HR := Lib.hid (show World.rangeAt ((w2.setCell ⟨(w.heap.size + 1 + 1), 6, none⟩ (.slice oa_inbox n_inbox cap_inbox)).setCell ⟨(w.heap.size + 1 + 1), 7, none⟩ (.int .i64 x.next)) (w.heap.size + 1 + 1) 0 [.int .i64 x.id, .int .i64 x.friend, .int .i64 x.key, .int .i64 x.seed, .slice oa_submitted n_submitted cap_submitted, .int .i64 x.sent, .slice oa_inbox n_inbox cap_inbox, .int .i64 x.next] from rangeB HK2)
  have HT := Lib.hid (show World.there ((w2.setCell ⟨(w.heap.size + 1 + 1), 6, none⟩ (.slice oa_inbox n_inbox cap_inbox)).setCell ⟨(w.heap.size + 1 + 1), 7, none⟩ (.int .i64 x.next)) (w.heap.size + 1) 0 8 from thereB HK1 0 8 (by simp))
  have HO := Lib.hid (show ∀ u, u ∈ ([.int .i64 x.id, .int .i64 x.friend, .int .i64 x.key, .int .i64 x.seed, .slice oa_submitted n_submitted cap_submitted, .int .i64 x.sent, .slice oa_inbox n_inbox cap_inbox, .int .i64 x.next] : List Value) → u.oneCell' = true from (ones_cons rfl (ones_cons rfl (ones_cons rfl (ones_cons rfl (ones_cons rfl (ones_cons rfl (ones_cons rfl (ones_cons rfl ones_nil)))))))))
  clear HK1 HK2
  go_wp2_with (first | ((with_reducible refine wpList_ld (op := ⟨some 30, _, _, _, _, _⟩) row_Cli_impl HR.out rfl rfl rfl ?_ ?_); exact rfl) | ((with_reducible refine wpList_st (op := ⟨none, _, _, _, _, _⟩) row_Cli_impl HT.out rfl HO.out rfl rfl ?_ ?_ ?_); exact rfl; exact rfl))
  refine bodyPost_ret (v := .agg #[.int .i64 x.id, .int .i64 x.friend, .int .i64 x.key, .int .i64 x.seed, .slice oa_submitted n_submitted cap_submitted, .int .i64 x.sent, .slice oa_inbox n_inbox cap_inbox, .int .i64 x.next]) (results_cell rfl (w.heap.size + 1) rfl [.int .i64 x.id, .int .i64 x.friend, .int .i64 x.key, .int .i64 x.seed, .slice oa_submitted n_submitted cap_submitted, .int .i64 x.sent, .slice oa_inbox n_inbox cap_inbox, .int .i64 x.next] (World.rangeAt_setCells_same _ _ _ _ HT.out) row_Cli_impl rfl) rfl ?_
  have hA : Agree w2 (((w2.setCell ⟨(w.heap.size + 1 + 1), 6, none⟩ (.slice oa_inbox n_inbox cap_inbox)).setCell ⟨(w.heap.size + 1 + 1), 7, none⟩ (.int .i64 x.next)).setCells (w.heap.size + 1) 0 [.int .i64 x.id, .int .i64 x.friend, .int .i64 x.key, .int .i64 x.seed, .slice oa_submitted n_submitted cap_submitted, .int .i64 x.sent, .slice oa_inbox n_inbox cap_inbox, .int .i64 x.next]) (g_submitted ++ g_inbox) := Agree.trans (Agree.trans (Agree.trans (Agree.refl _ _) (agree_setc (hO2.out.ne (by omega)))) (agree_setc (hO2.out.ne (by omega)))) (agree_setcs (hO2.out.ne (by omega)))
  refine ⟨[.int .i64 x.id, .int .i64 x.friend, .int .i64 x.key, .int .i64 x.seed, .slice oa_submitted n_submitted cap_submitted, .int .i64 x.sent, .slice oa_inbox n_inbox cap_inbox, .int .i64 x.next], g_submitted ++ g_inbox, rfl, ?_, ?_, ?_⟩
  · exact below_setCells (a := w) (w := ((w2.setCell ⟨(w.heap.size + 1 + 1), 6, none⟩ (.slice oa_inbox n_inbox cap_inbox)).setCell ⟨(w.heap.size + 1 + 1), 7, none⟩ (.int .i64 x.next))) (g := (w.heap.size + 1)) (by repeat (first | with_reducible exact hB2 | refine Below.setCell ?_ (by simp <;> omega) _)) (by omega) 0 [.int .i64 x.id, .int .i64 x.friend, .int .i64 x.key, .int .i64 x.seed, .slice oa_submitted n_submitted cap_submitted, .int .i64 x.sent, .slice oa_inbox n_inbox cap_inbox, .int .i64 x.next]
  · exact ⟨_, _, _, _, rfl, Sl.agree (good_sl good_u8) R_submitted.out (Agree.sub hA (fun b h => by simp [h])), Sl.agree (good_sl good_u8) R_inbox.out (Agree.sub hA (fun b h => by simp [h])), rfl⟩
  · exact (hO2.out.agree hA).mono (by omega)


set_option maxHeartbeats 800000 in
set_option maxRecDepth 100000 in
theorem toDevice (w : World) (cs : List Value) (x : Dev) (fp : List Nat) (hx : EDev w cs x fp) (hsz : size_Dev x ≤ 1048576) :
    Calls Try.prog 97 #[.agg cs.toArray] w (FreshC EDev w x) := by
  obtain ⟨_, _, _, _, rfl, ⟨v_live_submitted, v_live_inbox, f_live_submitted, f_live_inbox, rfl, h_live_submitted, h_live_inbox, rfl⟩, ⟨v_saved_submitted, v_saved_inbox, f_saved_submitted, f_saved_inbox, rfl, h_saved_submitted, h_saved_inbox, rfl⟩, rfl⟩ := hx
  have H_live : Hid (ECli w [.int .i64 x.live.id, .int .i64 x.live.friend, .int .i64 x.live.key, .int .i64 x.live.seed, v_live_submitted, .int .i64 x.live.sent, v_live_inbox, .int .i64 x.live.next] x.live _) := Lib.hid ⟨_, _, _, _, rfl, h_live_submitted, h_live_inbox, rfl⟩
  have H_saved : Hid (ECli w [.int .i64 x.saved.id, .int .i64 x.saved.friend, .int .i64 x.saved.key, .int .i64 x.saved.seed, v_saved_submitted, .int .i64 x.saved.sent, v_saved_inbox, .int .i64 x.saved.next] x.saved _) := Lib.hid ⟨_, _, _, _, rfl, h_saved_submitted, h_saved_inbox, rfl⟩
  clear h_live_submitted h_live_inbox h_saved_submitted h_saved_inbox
  unfold size_Dev at hsz
  have z_live : size_Cli x.live ≤ 1048576 := by omega
  have z_saved : size_Cli x.saved ≤ 1048576 := by omega
  clear hsz
  go_enter Try.func97, Try.ntmps97
  go_wp2_with fail
  refine (toClient _ _ _ _ (good_Cli.agree H_live.out (agree_below (B := w.heap.size) (by repeat (first | with_reducible exact Below.refl _ _ | refine Below.alloc ?_ (by simp <;> omega) _)) (good_Cli.lt H_live.out))) z_live).mono ?_
  rintro e w1 ⟨rc_live, g_live, rfl, hb, hS, hO⟩
  have hS0 := hS
  obtain ⟨vr_live_submitted, vr_live_inbox, fr_live_submitted, fr_live_inbox, rfl, hr_live_submitted, hr_live_inbox, _⟩ := hS
  obtain ⟨oavr_live_submitted, nvr_live_submitted, capvr_live_submitted, rfl⟩ := Sl.form hr_live_submitted
  obtain ⟨oavr_live_inbox, nvr_live_inbox, capvr_live_inbox, rfl⟩ := Sl.form hr_live_inbox
  clear hr_live_submitted hr_live_inbox
  have hS := hS0; clear hS0
  have k0 : w1.heap[w.heap.size]? = some (.cells #[.int .i64 x.live.id, .int .i64 x.live.friend, .int .i64 x.live.key, .int .i64 x.live.seed, v_live_submitted, .int .i64 x.live.sent, v_live_inbox, .int .i64 x.live.next, .int .i64 x.saved.id, .int .i64 x.saved.friend, .int .i64 x.saved.key, .int .i64 x.saved.seed, v_saved_submitted, .int .i64 x.saved.sent, v_saved_inbox, .int .i64 x.saved.next] 100 (0, 0)) := blk hb (alloc_old (alloc_old (alloc_top rfl)))
  have k1 : w1.heap[(w.heap.size + 1)]? = some (.cells #[.int .i64 0, .int .i64 0, .int .i64 0, .int .i64 0, .slice none 0 0, .int .i64 0, .slice none 0 0, .int .i64 0, .int .i64 0, .int .i64 0, .int .i64 0, .int .i64 0, .slice none 0 0, .int .i64 0, .slice none 0 0, .int .i64 0] 68 (0, 0)) := blk hb (alloc_old (alloc_top (by simp)))
  have k2 : w1.heap[(w.heap.size + 1 + 1)]? = some (.cells #[.int .i64 0, .int .i64 0, .int .i64 0, .int .i64 0, .slice none 0 0, .int .i64 0, .slice none 0 0, .int .i64 0, .int .i64 0, .int .i64 0, .int .i64 0, .int .i64 0, .slice none 0 0, .int .i64 0, .slice none 0 0, .int .i64 0] 68 (0, 0)) := blk hb (alloc_top (by simp))
  have hB1 : Below w.heap.size w w1 := Below.trans (by repeat (first | with_reducible exact Below.refl _ _ | refine Below.alloc ?_ (by simp <;> omega) _)) (hb.mono (by simp <;> omega))
  have hz1 : (w.heap.size + 1 + 1 + 1) ≤ w1.heap.size := by have := hb.size; simp at this; omega
  have hO1 := Lib.hid (show Own (w.heap.size + 1 + 1 + 1) w1 g_live by simpa using hO)
  have R_live := Lib.hid hS
  clear hb hS hO
  have c0 := cellB k0; have c1 := cellB k1; have f1 := frzB k1; have c2 := cellB k2; have f2 := frzB k2
  have K0 := Lib.hid k0; have K1 := Lib.hid k1; have K2 := Lib.hid k2; clear k0 k1 k2
  go_wp2_with fail
  have hW : ∀ W, Below w.heap.size w W → ECli W _ x.saved _ := fun W hb => good_Cli.agree H_saved.out (agree_below (B := w.heap.size) hb (good_Cli.lt H_saved.out))
  have HW := Lib.hid hW; clear hW
  refine (toClient _ _ _ _ (HW.out _ ?hbel1) z_saved).mono ?_
  case hbel1 => repeat (first | with_reducible exact hB1 | refine Below.setCell ?_ (by simp <;> omega) _)
  rintro e w2 ⟨rc_saved, g_saved, rfl, hb, hS, hO⟩
  have hS0 := hS
  obtain ⟨vr_saved_submitted, vr_saved_inbox, fr_saved_submitted, fr_saved_inbox, rfl, hr_saved_submitted, hr_saved_inbox, _⟩ := hS
  obtain ⟨oavr_saved_submitted, nvr_saved_submitted, capvr_saved_submitted, rfl⟩ := Sl.form hr_saved_submitted
  obtain ⟨oavr_saved_inbox, nvr_saved_inbox, capvr_saved_inbox, rfl⟩ := Sl.form hr_saved_inbox
  clear hr_saved_submitted hr_saved_inbox
  have hS := hS0; clear hS0
  have k0 : w2.heap[w.heap.size]? = some (.cells #[.int .i64 x.live.id, .int .i64 x.live.friend, .int .i64 x.live.key, .int .i64 x.live.seed, v_live_submitted, .int .i64 x.live.sent, v_live_inbox, .int .i64 x.live.next, .int .i64 x.saved.id, .int .i64 x.saved.friend, .int .i64 x.saved.key, .int .i64 x.saved.seed, v_saved_submitted, .int .i64 x.saved.sent, v_saved_inbox, .int .i64 x.saved.next] 100 (0, 0)) := blk hb (setc_other (setc_other (setc_other (setc_other (setc_other (setc_other (setc_other (setc_other K0.out (by omega)) (by omega)) (by omega)) (by omega)) (by omega)) (by omega)) (by omega)) (by omega))
  have k1 : w2.heap[(w.heap.size + 1)]? = some (.cells #[.int .i64 0, .int .i64 0, .int .i64 0, .int .i64 0, .slice none 0 0, .int .i64 0, .slice none 0 0, .int .i64 0, .int .i64 0, .int .i64 0, .int .i64 0, .int .i64 0, .slice none 0 0, .int .i64 0, .slice none 0 0, .int .i64 0] 68 (0, 0)) := blk hb (setc_other (setc_other (setc_other (setc_other (setc_other (setc_other (setc_other (setc_other K1.out (by omega)) (by omega)) (by omega)) (by omega)) (by omega)) (by omega)) (by omega)) (by omega))
  have k2 : w2.heap[(w.heap.size + 1 + 1)]? = some (.cells #[.int .i64 x.live.id, .int .i64 x.live.friend, .int .i64 x.live.key, .int .i64 x.live.seed, .slice oavr_live_submitted nvr_live_submitted capvr_live_submitted, .int .i64 x.live.sent, .slice oavr_live_inbox nvr_live_inbox capvr_live_inbox, .int .i64 x.live.next, .int .i64 0, .int .i64 0, .int .i64 0, .int .i64 0, .slice none 0 0, .int .i64 0, .slice none 0 0, .int .i64 0] 68 (0, 0)) := (blk hb (setc_same (setc_same (setc_same (setc_same (setc_same (setc_same (setc_same (setc_same K2.out))))))))).trans (by kernel_rfl)
  have hB2 : Below w.heap.size w w2 := Below.trans (by repeat (first | with_reducible exact hB1 | refine Below.setCell ?_ (by simp <;> omega) _)) (hb.mono (by simp [World.setCell]; omega))
  have hz2 : (w.heap.size + 1 + 1 + 1) ≤ w2.heap.size := by have := hb.size; simp [World.setCell] at this; omega
  have hA : Agree w1 w2 (g_live) := Agree.trans (Agree.trans (Agree.trans (Agree.trans (Agree.trans (Agree.trans (Agree.trans (Agree.trans (Agree.trans (Agree.refl _ _) (agree_setc (hO1.out.ne (by omega)))) (agree_setc (hO1.out.ne (by omega)))) (agree_setc (hO1.out.ne (by omega)))) (agree_setc (hO1.out.ne (by omega)))) (agree_setc (hO1.out.ne (by omega)))) (agree_setc (hO1.out.ne (by omega)))) (agree_setc (hO1.out.ne (by omega)))) (agree_setc (hO1.out.ne (by omega)))) (agree_below hb (fun b h => by have := hO1.out.lt b h; simp [World.setCell]; exact this))
  have R_live := Lib.hid (good_Cli.agree R_live.out hA)
  have hO2 := Lib.hid (Own.app (hO1.out.agree hA) hO1.out.lt (show Own w1.heap.size w2 g_saved by simpa [World.setCell] using hO) hz1)
  have R_saved := Lib.hid hS
  clear hb hS hO hA
  have c0 := cellB k0; have c1 := cellB k1; have f1 := frzB k1; have c2 := cellB k2; have f2 := frzB k2
  have K0 := Lib.hid k0; have K1 := Lib.hid k1; have K2 := Lib.hid k2; clear k0 k1 k2
  have HK2 : ((((((((w2.setCell ⟨(w.heap.size + 1 + 1), 8, none⟩ (.int .i64 x.saved.id)).setCell ⟨(w.heap.size + 1 + 1), 9, none⟩ (.int .i64 x.saved.friend)).setCell ⟨(w.heap.size + 1 + 1), 10, none⟩ (.int .i64 x.saved.key)).setCell ⟨(w.heap.size + 1 + 1), 11, none⟩ (.int .i64 x.saved.seed)).setCell ⟨(w.heap.size + 1 + 1), 12, none⟩ (.slice oavr_saved_submitted nvr_saved_submitted capvr_saved_submitted)).setCell ⟨(w.heap.size + 1 + 1), 13, none⟩ (.int .i64 x.saved.sent)).setCell ⟨(w.heap.size + 1 + 1), 14, none⟩ (.slice oavr_saved_inbox nvr_saved_inbox capvr_saved_inbox)).setCell ⟨(w.heap.size + 1 + 1), 15, none⟩ (.int .i64 x.saved.next)).heap[(w.heap.size + 1 + 1)]? = some (.cells #[.int .i64 x.live.id, .int .i64 x.live.friend, .int .i64 x.live.key, .int .i64 x.live.seed, .slice oavr_live_submitted nvr_live_submitted capvr_live_submitted, .int .i64 x.live.sent, .slice oavr_live_inbox nvr_live_inbox capvr_live_inbox, .int .i64 x.live.next, .int .i64 x.saved.id, .int .i64 x.saved.friend, .int .i64 x.saved.key, .int .i64 x.saved.seed, .slice oavr_saved_submitted nvr_saved_submitted capvr_saved_submitted, .int .i64 x.saved.sent, .slice oavr_saved_inbox nvr_saved_inbox capvr_saved_inbox, .int .i64 x.saved.next] 68 (0, 0)) := ((setc_same (setc_same (setc_same (setc_same (setc_same (setc_same (setc_same (setc_same K2.out))))))))).trans (by kernel_rfl)
  have HK1 : ((((((((w2.setCell ⟨(w.heap.size + 1 + 1), 8, none⟩ (.int .i64 x.saved.id)).setCell ⟨(w.heap.size + 1 + 1), 9, none⟩ (.int .i64 x.saved.friend)).setCell ⟨(w.heap.size + 1 + 1), 10, none⟩ (.int .i64 x.saved.key)).setCell ⟨(w.heap.size + 1 + 1), 11, none⟩ (.int .i64 x.saved.seed)).setCell ⟨(w.heap.size + 1 + 1), 12, none⟩ (.slice oavr_saved_submitted nvr_saved_submitted capvr_saved_submitted)).setCell ⟨(w.heap.size + 1 + 1), 13, none⟩ (.int .i64 x.saved.sent)).setCell ⟨(w.heap.size + 1 + 1), 14, none⟩ (.slice oavr_saved_inbox nvr_saved_inbox capvr_saved_inbox)).setCell ⟨(w.heap.size + 1 + 1), 15, none⟩ (.int .i64 x.saved.next)).heap[(w.heap.size + 1)]? = some (.cells #[.int .i64 0, .int .i64 0, .int .i64 0, .int .i64 0, .slice none 0 0, .int .i64 0, .slice none 0 0, .int .i64 0, .int .i64 0, .int .i64 0, .int .i64 0, .int .i64 0, .slice none 0 0, .int .i64 0, .slice none 0 0, .int .i64 0] 68 (0, 0)) := (setc_other (setc_other (setc_other (setc_other (setc_other (setc_other (setc_other (setc_other K1.out (by omega)) (by omega)) (by omega)) (by omega)) (by omega)) (by omega)) (by omega)) (by omega))
  have HR := Lib.hid (show World.rangeAt ((((((((w2.setCell ⟨(w.heap.size + 1 + 1), 8, none⟩ (.int .i64 x.saved.id)).setCell ⟨(w.heap.size + 1 + 1), 9, none⟩ (.int .i64 x.saved.friend)).setCell ⟨(w.heap.size + 1 + 1), 10, none⟩ (.int .i64 x.saved.key)).setCell ⟨(w.heap.size + 1 + 1), 11, none⟩ (.int .i64 x.saved.seed)).setCell ⟨(w.heap.size + 1 + 1), 12, none⟩ (.slice oavr_saved_submitted nvr_saved_submitted capvr_saved_submitted)).setCell ⟨(w.heap.size + 1 + 1), 13, none⟩ (.int .i64 x.saved.sent)).setCell ⟨(w.heap.size + 1 + 1), 14, none⟩ (.slice oavr_saved_inbox nvr_saved_inbox capvr_saved_inbox)).setCell ⟨(w.heap.size + 1 + 1), 15, none⟩ (.int .i64 x.saved.next)) (w.heap.size + 1 + 1) 0 [.int .i64 x.live.id, .int .i64 x.live.friend, .int .i64 x.live.key, .int .i64 x.live.seed, .slice oavr_live_submitted nvr_live_submitted capvr_live_submitted, .int .i64 x.live.sent, .slice oavr_live_inbox nvr_live_inbox capvr_live_inbox, .int .i64 x.live.next, .int .i64 x.saved.id, .int .i64 x.saved.friend, .int .i64 x.saved.key, .int .i64 x.saved.seed, .slice oavr_saved_submitted nvr_saved_submitted capvr_saved_submitted, .int .i64 x.saved.sent, .slice oavr_saved_inbox nvr_saved_inbox capvr_saved_inbox, .int .i64 x.saved.next] from rangeB HK2)
  have HT := Lib.hid (show World.there ((((((((w2.setCell ⟨(w.heap.size + 1 + 1), 8, none⟩ (.int .i64 x.saved.id)).setCell ⟨(w.heap.size + 1 + 1), 9, none⟩ (.int .i64 x.saved.friend)).setCell ⟨(w.heap.size + 1 + 1), 10, none⟩ (.int .i64 x.saved.key)).setCell ⟨(w.heap.size + 1 + 1), 11, none⟩ (.int .i64 x.saved.seed)).setCell ⟨(w.heap.size + 1 + 1), 12, none⟩ (.slice oavr_saved_submitted nvr_saved_submitted capvr_saved_submitted)).setCell ⟨(w.heap.size + 1 + 1), 13, none⟩ (.int .i64 x.saved.sent)).setCell ⟨(w.heap.size + 1 + 1), 14, none⟩ (.slice oavr_saved_inbox nvr_saved_inbox capvr_saved_inbox)).setCell ⟨(w.heap.size + 1 + 1), 15, none⟩ (.int .i64 x.saved.next)) (w.heap.size + 1) 0 16 from thereB HK1 0 16 (by simp))
  have HO := Lib.hid (show ∀ u, u ∈ ([.int .i64 x.live.id, .int .i64 x.live.friend, .int .i64 x.live.key, .int .i64 x.live.seed, .slice oavr_live_submitted nvr_live_submitted capvr_live_submitted, .int .i64 x.live.sent, .slice oavr_live_inbox nvr_live_inbox capvr_live_inbox, .int .i64 x.live.next, .int .i64 x.saved.id, .int .i64 x.saved.friend, .int .i64 x.saved.key, .int .i64 x.saved.seed, .slice oavr_saved_submitted nvr_saved_submitted capvr_saved_submitted, .int .i64 x.saved.sent, .slice oavr_saved_inbox nvr_saved_inbox capvr_saved_inbox, .int .i64 x.saved.next] : List Value) → u.oneCell' = true from (ones_cons rfl (ones_cons rfl (ones_cons rfl (ones_cons rfl (ones_cons rfl (ones_cons rfl (ones_cons rfl (ones_cons rfl (ones_cons rfl (ones_cons rfl (ones_cons rfl (ones_cons rfl (ones_cons rfl (ones_cons rfl (ones_cons rfl (ones_cons rfl ones_nil)))))))))))))))))
  clear HK1 HK2
  go_wp2_with (first | ((with_reducible refine wpList_ld (op := ⟨some 12, _, _, _, _, _⟩) row_Dev_impl HR.out rfl rfl rfl ?_ ?_); exact rfl) | ((with_reducible refine wpList_st (op := ⟨none, _, _, _, _, _⟩) row_Dev_impl HT.out rfl HO.out rfl rfl ?_ ?_ ?_); exact rfl; exact rfl))
  refine bodyPost_ret (v := .agg #[.int .i64 x.live.id, .int .i64 x.live.friend, .int .i64 x.live.key, .int .i64 x.live.seed, .slice oavr_live_submitted nvr_live_submitted capvr_live_submitted, .int .i64 x.live.sent, .slice oavr_live_inbox nvr_live_inbox capvr_live_inbox, .int .i64 x.live.next, .int .i64 x.saved.id, .int .i64 x.saved.friend, .int .i64 x.saved.key, .int .i64 x.saved.seed, .slice oavr_saved_submitted nvr_saved_submitted capvr_saved_submitted, .int .i64 x.saved.sent, .slice oavr_saved_inbox nvr_saved_inbox capvr_saved_inbox, .int .i64 x.saved.next]) (results_cell rfl (w.heap.size + 1) rfl [.int .i64 x.live.id, .int .i64 x.live.friend, .int .i64 x.live.key, .int .i64 x.live.seed, .slice oavr_live_submitted nvr_live_submitted capvr_live_submitted, .int .i64 x.live.sent, .slice oavr_live_inbox nvr_live_inbox capvr_live_inbox, .int .i64 x.live.next, .int .i64 x.saved.id, .int .i64 x.saved.friend, .int .i64 x.saved.key, .int .i64 x.saved.seed, .slice oavr_saved_submitted nvr_saved_submitted capvr_saved_submitted, .int .i64 x.saved.sent, .slice oavr_saved_inbox nvr_saved_inbox capvr_saved_inbox, .int .i64 x.saved.next] (World.rangeAt_setCells_same _ _ _ _ HT.out) row_Dev_impl rfl) rfl ?_
  have hA : Agree w2 (((((((((w2.setCell ⟨(w.heap.size + 1 + 1), 8, none⟩ (.int .i64 x.saved.id)).setCell ⟨(w.heap.size + 1 + 1), 9, none⟩ (.int .i64 x.saved.friend)).setCell ⟨(w.heap.size + 1 + 1), 10, none⟩ (.int .i64 x.saved.key)).setCell ⟨(w.heap.size + 1 + 1), 11, none⟩ (.int .i64 x.saved.seed)).setCell ⟨(w.heap.size + 1 + 1), 12, none⟩ (.slice oavr_saved_submitted nvr_saved_submitted capvr_saved_submitted)).setCell ⟨(w.heap.size + 1 + 1), 13, none⟩ (.int .i64 x.saved.sent)).setCell ⟨(w.heap.size + 1 + 1), 14, none⟩ (.slice oavr_saved_inbox nvr_saved_inbox capvr_saved_inbox)).setCell ⟨(w.heap.size + 1 + 1), 15, none⟩ (.int .i64 x.saved.next)).setCells (w.heap.size + 1) 0 [.int .i64 x.live.id, .int .i64 x.live.friend, .int .i64 x.live.key, .int .i64 x.live.seed, .slice oavr_live_submitted nvr_live_submitted capvr_live_submitted, .int .i64 x.live.sent, .slice oavr_live_inbox nvr_live_inbox capvr_live_inbox, .int .i64 x.live.next, .int .i64 x.saved.id, .int .i64 x.saved.friend, .int .i64 x.saved.key, .int .i64 x.saved.seed, .slice oavr_saved_submitted nvr_saved_submitted capvr_saved_submitted, .int .i64 x.saved.sent, .slice oavr_saved_inbox nvr_saved_inbox capvr_saved_inbox, .int .i64 x.saved.next]) (g_live ++ g_saved) := Agree.trans (Agree.trans (Agree.trans (Agree.trans (Agree.trans (Agree.trans (Agree.trans (Agree.trans (Agree.trans (Agree.refl _ _) (agree_setc (hO2.out.ne (by omega)))) (agree_setc (hO2.out.ne (by omega)))) (agree_setc (hO2.out.ne (by omega)))) (agree_setc (hO2.out.ne (by omega)))) (agree_setc (hO2.out.ne (by omega)))) (agree_setc (hO2.out.ne (by omega)))) (agree_setc (hO2.out.ne (by omega)))) (agree_setc (hO2.out.ne (by omega)))) (agree_setcs (hO2.out.ne (by omega)))
  refine ⟨[.int .i64 x.live.id, .int .i64 x.live.friend, .int .i64 x.live.key, .int .i64 x.live.seed, .slice oavr_live_submitted nvr_live_submitted capvr_live_submitted, .int .i64 x.live.sent, .slice oavr_live_inbox nvr_live_inbox capvr_live_inbox, .int .i64 x.live.next, .int .i64 x.saved.id, .int .i64 x.saved.friend, .int .i64 x.saved.key, .int .i64 x.saved.seed, .slice oavr_saved_submitted nvr_saved_submitted capvr_saved_submitted, .int .i64 x.saved.sent, .slice oavr_saved_inbox nvr_saved_inbox capvr_saved_inbox, .int .i64 x.saved.next], g_live ++ g_saved, rfl, ?_, ?_, ?_⟩
  · exact below_setCells (a := w) (w := ((((((((w2.setCell ⟨(w.heap.size + 1 + 1), 8, none⟩ (.int .i64 x.saved.id)).setCell ⟨(w.heap.size + 1 + 1), 9, none⟩ (.int .i64 x.saved.friend)).setCell ⟨(w.heap.size + 1 + 1), 10, none⟩ (.int .i64 x.saved.key)).setCell ⟨(w.heap.size + 1 + 1), 11, none⟩ (.int .i64 x.saved.seed)).setCell ⟨(w.heap.size + 1 + 1), 12, none⟩ (.slice oavr_saved_submitted nvr_saved_submitted capvr_saved_submitted)).setCell ⟨(w.heap.size + 1 + 1), 13, none⟩ (.int .i64 x.saved.sent)).setCell ⟨(w.heap.size + 1 + 1), 14, none⟩ (.slice oavr_saved_inbox nvr_saved_inbox capvr_saved_inbox)).setCell ⟨(w.heap.size + 1 + 1), 15, none⟩ (.int .i64 x.saved.next))) (g := (w.heap.size + 1)) (by repeat (first | with_reducible exact hB2 | refine Below.setCell ?_ (by simp <;> omega) _)) (by omega) 0 [.int .i64 x.live.id, .int .i64 x.live.friend, .int .i64 x.live.key, .int .i64 x.live.seed, .slice oavr_live_submitted nvr_live_submitted capvr_live_submitted, .int .i64 x.live.sent, .slice oavr_live_inbox nvr_live_inbox capvr_live_inbox, .int .i64 x.live.next, .int .i64 x.saved.id, .int .i64 x.saved.friend, .int .i64 x.saved.key, .int .i64 x.saved.seed, .slice oavr_saved_submitted nvr_saved_submitted capvr_saved_submitted, .int .i64 x.saved.sent, .slice oavr_saved_inbox nvr_saved_inbox capvr_saved_inbox, .int .i64 x.saved.next]
  · exact ⟨_, _, _, _, rfl, good_Cli.agree R_live.out (Agree.sub hA (fun b h => by simp [h])), good_Cli.agree R_saved.out (Agree.sub hA (fun b h => by simp [h])), rfl⟩
  · exact (hO2.out.agree hA).mono (by omega)


set_option maxHeartbeats 400000 in
set_option maxRecDepth 100000 in
theorem toServerS (w : World) (v : Value) (l : (List Srv)) (fp : List Nat) (h : Sl 5 ESrv w v l fp) (hsz : lsz size_Srv l ≤ 1048576) :
    Calls Try.prog 53 #[v] w (Fresh 5 ESrv 81 w l) := by
  have HX := Lib.hid h
  obtain ⟨oa, cap, rfl, hc, hm, _⟩ := h
  obtain ⟨n, hl⟩ : ∃ n, n = l.length := ⟨_, rfl⟩
  have hln : n ≤ 1048576 := by have := lsz_len hsz; omega
  rw [← hl] at hc HX ⊢
  have HL := Lib.hid hl; clear hl
  unfold maxLen at hm
  obtain ⟨ie, hi, hz0, hz1, hz2⟩ := info_parts infz_Server_impl
  go_enter Try.func53, Try.ntmps53
  go_wp2_with (at_make; refine wpList_make_full _ rfl _ _ 32 rfl w.heap.size 81 ie _ 5 Try.underlying32 hi hz0 hz1 _ _ _ _ n rfl rfl rfl rfl (by rw [hz2]; omega) (by unfold maxLen; omega) (Nat.le_refl _) ?_)
  intro w1 hrow hgr
  have hp := Part.start (α := Srv) (E := ESrv) hrow
  have hb1 : Below w.heap.size w w1 := (Below.refl _ _).grown hgr (Nat.le_refl _) (by simp)
  have hz : w.heap.size < w1.heap.size := hp.own.lt _ (by simp)
  clear hrow hgr hz0 hz1 hz2 hi
  go_wp2_with fail
  go_loopw [4] (fun i wr => ∃ k : Nat, k ≤ n ∧ i = .int .i64 k ∧ ∃ fps, Part 5 ESrv w.heap.size 81 wr w.heap.size n (l.take k) fps ∧ Below w.heap.size w wr ∧ w.heap.size < wr.heap.size) (fun i _ => n - (intOf i).toNat)
  case atStart => exact ⟨0, by omega, rfl, [], by simpa using hp, hb1, hz⟩
  case round =>
    obtain ⟨k, hk, rfl, fps, hp, hb, hz⟩ := hrel
    by_cases hk2 : k < n
    · obtain ⟨x, hx⟩ := getE (l := l) (k := k) (by have := HL.out; omega)
      obtain ⟨b, off, f, cs, rfl, hr, hE, _⟩ := (Sl.below good_Srv HX.out hb).at hx
      have HY := Lib.hid hx
      have HP := Lib.hid hp
      have hlt := Lib.hid (show (l.take k).length = k by rw [List.length_take]; have := HL.out; omega)
      clear hx hp
      have hsx := lsz_mem hsz HY.out
      have HR := Lib.hid hr
      have hcs := Lib.hid (good_Srv.len hE)
      have HE := Lib.hid hE; clear hE hr
      go_wp2_with ((with_reducible refine wpList_ld (op := ⟨some 19, _, _, _, _, _⟩) row_Srv_laws HR.out hcs.out rfl rfl ?_ ?_); exact rfl)
      refine (toServer _ _ _ _ HE.out hsx).mono ?_
      rintro e w2 ⟨cs2, f2, rfl, hb2, hE2, hO2⟩
      have hp1 := HP.out.below good_Srv hb2
      have hb3 := hb.trans (hb2.mono (Nat.le_of_lt hz))
      have hz2 := hb2.size
      have hs2 := good_Srv.len hE2
      have HT := Lib.hid (hp1.there k hk2)
      have HS2 := Lib.hid hs2
      have HO := Lib.hid (good_Srv.one hE2)
      have hp2 := hp1.push good_Srv (by rw [hlt.out]; exact hk2) (f := f2) (x := x) (cs := cs2) hE2 (hO2.mono (Nat.le_of_lt hz)) (fun b hb hm => by have h1 := hO2.ge b hb; have h2 := HP.out.own.lt b hm; omega)
      rw [hlt.out] at hp2
      have HP3 : Hid (Part 5 ESrv w.heap.size 81 (w2.setCells w.heap.size (k * 5) cs2) w.heap.size n (l.take (k + 1)) (fps ++ [f2])) := Lib.hid (by
        rw [List.take_add_one, HY.out]; exact hp2)
      have HB2 := Lib.hid (below_setCells hb3 (Nat.le_refl _) (k * 5) cs2)
      have hz3 : w.heap.size < w2.heap.size := by omega
      clear hp2 hp1 hb3 hE2 hO2 hb2 hz2 hs2
      go_wp2_with ((with_reducible refine wpList_st (op := ⟨none, _, _, _, _, _⟩) row_Srv_impl HT.out HS2.out HO.out rfl rfl ?_ ?_ ?_); exact rfl; exact rfl)
      go_wp2_with fail
      go_roundw
      case rel => exact ⟨k + 1, by omega, by go_num, _, HP3.out, HB2.out, by rw [setCells_size]; exact hz3⟩
      case measure => simp [intOf]; omega
    · have hkn : k = n := by omega
      subst hkn
      have hd : Bld 5 ESrv w.heap.size 81 wr (.slice (some ⟨w.heap.size, 0, none⟩) k k) l (w.heap.size :: fps.flatten) := by
        have := hp.done good_Srv (by rw [List.length_take]; have := HL.out; omega)
        rw [List.take_of_length_le (by have := HL.out; omega)] at this
        exact this
      clear hp
      have HD := Lib.hid hd; clear hd
      go_wp2
      go_ret
      exact ⟨_, _, rfl, hb, HD.out⟩


set_option maxHeartbeats 400000 in
set_option maxRecDepth 100000 in
theorem toDeviceS (w : World) (v : Value) (l : (List Dev)) (fp : List Nat) (h : Sl 16 EDev w v l fp) (hsz : lsz size_Dev l ≤ 1048576) :
    Calls Try.prog 54 #[v] w (Fresh 16 EDev 68 w l) := by
  have HX := Lib.hid h
  obtain ⟨oa, cap, rfl, hc, hm, _⟩ := h
  obtain ⟨n, hl⟩ : ∃ n, n = l.length := ⟨_, rfl⟩
  have hln : n ≤ 1048576 := by have := lsz_len hsz; omega
  rw [← hl] at hc HX ⊢
  have HL := Lib.hid hl; clear hl
  unfold maxLen at hm
  obtain ⟨ie, hi, hz0, hz1, hz2⟩ := info_parts infz_Device_impl
  go_enter Try.func54, Try.ntmps54
  go_wp2_with (at_make; refine wpList_make_full _ rfl _ _ 33 rfl w.heap.size 68 ie _ 16 Try.underlying33 hi hz0 hz1 _ _ _ _ n rfl rfl rfl rfl (by rw [hz2]; omega) (by unfold maxLen; omega) (Nat.le_refl _) ?_)
  intro w1 hrow hgr
  have hp := Part.start (α := Dev) (E := EDev) hrow
  have hb1 : Below w.heap.size w w1 := (Below.refl _ _).grown hgr (Nat.le_refl _) (by simp)
  have hz : w.heap.size < w1.heap.size := hp.own.lt _ (by simp)
  clear hrow hgr hz0 hz1 hz2 hi
  go_wp2_with fail
  go_loopw [4] (fun i wr => ∃ k : Nat, k ≤ n ∧ i = .int .i64 k ∧ ∃ fps, Part 16 EDev w.heap.size 68 wr w.heap.size n (l.take k) fps ∧ Below w.heap.size w wr ∧ w.heap.size < wr.heap.size) (fun i _ => n - (intOf i).toNat)
  case atStart => exact ⟨0, by omega, rfl, [], by simpa using hp, hb1, hz⟩
  case round =>
    obtain ⟨k, hk, rfl, fps, hp, hb, hz⟩ := hrel
    by_cases hk2 : k < n
    · obtain ⟨x, hx⟩ := getE (l := l) (k := k) (by have := HL.out; omega)
      obtain ⟨b, off, f, cs, rfl, hr, hE, _⟩ := (Sl.below good_Dev HX.out hb).at hx
      have HY := Lib.hid hx
      have HP := Lib.hid hp
      have hlt := Lib.hid (show (l.take k).length = k by rw [List.length_take]; have := HL.out; omega)
      clear hx hp
      have hsx := lsz_mem hsz HY.out
      have HR := Lib.hid hr
      have hcs := Lib.hid (good_Dev.len hE)
      have HE := Lib.hid hE; clear hE hr
      go_wp2_with ((with_reducible refine wpList_ld (op := ⟨some 19, _, _, _, _, _⟩) row_Dev_laws HR.out hcs.out rfl rfl ?_ ?_); exact rfl)
      refine (toDevice _ _ _ _ HE.out hsx).mono ?_
      rintro e w2 ⟨cs2, f2, rfl, hb2, hE2, hO2⟩
      have hp1 := HP.out.below good_Dev hb2
      have hb3 := hb.trans (hb2.mono (Nat.le_of_lt hz))
      have hz2 := hb2.size
      have hs2 := good_Dev.len hE2
      have HT := Lib.hid (hp1.there k hk2)
      have HS2 := Lib.hid hs2
      have HO := Lib.hid (good_Dev.one hE2)
      have hp2 := hp1.push good_Dev (by rw [hlt.out]; exact hk2) (f := f2) (x := x) (cs := cs2) hE2 (hO2.mono (Nat.le_of_lt hz)) (fun b hb hm => by have h1 := hO2.ge b hb; have h2 := HP.out.own.lt b hm; omega)
      rw [hlt.out] at hp2
      have HP3 : Hid (Part 16 EDev w.heap.size 68 (w2.setCells w.heap.size (k * 16) cs2) w.heap.size n (l.take (k + 1)) (fps ++ [f2])) := Lib.hid (by
        rw [List.take_add_one, HY.out]; exact hp2)
      have HB2 := Lib.hid (below_setCells hb3 (Nat.le_refl _) (k * 16) cs2)
      have hz3 : w.heap.size < w2.heap.size := by omega
      clear hp2 hp1 hb3 hE2 hO2 hb2 hz2 hs2
      go_wp2_with ((with_reducible refine wpList_st (op := ⟨none, _, _, _, _, _⟩) row_Dev_impl HT.out HS2.out HO.out rfl rfl ?_ ?_ ?_); exact rfl; exact rfl)
      go_wp2_with fail
      go_roundw
      case rel => exact ⟨k + 1, by omega, by go_num, _, HP3.out, HB2.out, by rw [setCells_size]; exact hz3⟩
      case measure => simp [intOf]; omega
    · have hkn : k = n := by omega
      subst hkn
      have hd : Bld 16 EDev w.heap.size 68 wr (.slice (some ⟨w.heap.size, 0, none⟩) k k) l (w.heap.size :: fps.flatten) := by
        have := hp.done good_Dev (by rw [List.length_take]; have := HL.out; omega)
        rw [List.take_of_length_le (by have := HL.out; omega)] at this
        exact this
      clear hp
      have HD := Lib.hid hd; clear hd
      go_wp2
      go_ret
      exact ⟨_, _, rfl, hb, HD.out⟩


set_option maxHeartbeats 800000 in
set_option maxRecDepth 100000 in
theorem toWorld (w : World) (cs : List Value) (x : Wld) (fp : List Nat) (hx : EWld w cs x fp) (hsz : size_Wld x ≤ 1048576) :
    Calls Try.prog 17 #[.agg cs.toArray] w (FreshC EWld w x) := by
  obtain ⟨v_servers, v_devices, _, v_replaced, f_servers, f_devices, _, f_replaced, rfl, h_servers, h_devices, ⟨v_archive_rounds, f_archive_rounds, rfl, h_archive_rounds, rfl⟩, h_replaced, rfl⟩ := hx
  have H_servers := Lib.hid h_servers
  have H_devices := Lib.hid h_devices
  have H_archive : Hid (EArc w [.int .i64 x.archive.rows, v_archive_rounds] x.archive _) := Lib.hid ⟨_, _, rfl, h_archive_rounds, rfl⟩
  have H_replaced := Lib.hid h_replaced
  clear h_servers h_devices h_archive_rounds h_replaced
  unfold size_Wld at hsz
  have z_servers : (lsz size_Srv) x.servers ≤ 1048576 := by omega
  have z_devices : (lsz size_Dev) x.devices ≤ 1048576 := by omega
  have z_archive : size_Arc x.archive ≤ 1048576 := by omega
  have z_replaced : List.length x.replaced ≤ 1048576 := by omega
  clear hsz
  go_enter Try.func17, Try.ntmps17
  go_wp2_with fail
  refine (toServerS _ _ _ _ (Sl.agree good_Srv H_servers.out (agree_below (B := w.heap.size) (by repeat (first | with_reducible exact Below.refl _ _ | refine Below.alloc ?_ (by simp <;> omega) _)) (Sl.lt good_Srv H_servers.out))) z_servers).mono ?_
  rintro e w1 ⟨r_servers, g_servers, rfl, hb, hR⟩
  obtain ⟨oa_servers, n_servers, cap_servers, rfl⟩ := Sl.form hR.sl
  have hS := hR.sl; have hO := hR.own; clear hR
  have k0 : w1.heap[w.heap.size]? = some (.cells #[.int .i64 x.rows, v_servers, v_devices, .int .i64 x.archive.rows, v_archive_rounds, .int .i64 x.master, .int .i64 x.seed, .int .i64 x.round, v_replaced, .int .i64 x.cancelled] 29 (0, 0)) := blk hb (alloc_old (alloc_old (alloc_top rfl)))
  have k1 : w1.heap[(w.heap.size + 1)]? = some (.cells #[.int .i64 0, .slice none 0 0, .slice none 0 0, .int .i64 0, .slice none 0 0, .int .i64 0, .int .i64 0, .int .i64 0, .slice none 0 0, .int .i64 0] 38 (0, 0)) := blk hb (alloc_old (alloc_top (by simp)))
  have k2 : w1.heap[(w.heap.size + 1 + 1)]? = some (.cells #[.int .i64 x.rows, .slice none 0 0, .slice none 0 0, .int .i64 0, .slice none 0 0, .int .i64 0, .int .i64 0, .int .i64 0, .slice none 0 0, .int .i64 0] 38 (0, 0)) := blk hb (alloc_top (by simp))
  have hB1 : Below w.heap.size w w1 := Below.trans (by repeat (first | with_reducible exact Below.refl _ _ | refine Below.alloc ?_ (by simp <;> omega) _)) (hb.mono (by simp <;> omega))
  have hz1 : (w.heap.size + 1 + 1 + 1) ≤ w1.heap.size := by have := hb.size; simp at this; omega
  have hO1 := Lib.hid (show Own (w.heap.size + 1 + 1 + 1) w1 g_servers by simpa using hO)
  have R_servers := Lib.hid hS
  clear hb hS hO
  have c0 := cellB k0; have c1 := cellB k1; have f1 := frzB k1; have c2 := cellB k2; have f2 := frzB k2
  have K0 := Lib.hid k0; have K1 := Lib.hid k1; have K2 := Lib.hid k2; clear k0 k1 k2
  go_wp2_with fail
  have hW : ∀ W, Below w.heap.size w W → Sl 16 EDev W _ x.devices _ := fun W hb => Sl.agree good_Dev H_devices.out (agree_below (B := w.heap.size) hb (Sl.lt good_Dev H_devices.out))
  have HW := Lib.hid hW; clear hW
  refine (toDeviceS _ _ _ _ (HW.out _ ?hbel1) z_devices).mono ?_
  case hbel1 => repeat (first | with_reducible exact hB1 | refine Below.setCell ?_ (by simp <;> omega) _)
  rintro e w2 ⟨r_devices, g_devices, rfl, hb, hR⟩
  obtain ⟨oa_devices, n_devices, cap_devices, rfl⟩ := Sl.form hR.sl
  have hS := hR.sl; have hO := hR.own; clear hR
  have k0 : w2.heap[w.heap.size]? = some (.cells #[.int .i64 x.rows, v_servers, v_devices, .int .i64 x.archive.rows, v_archive_rounds, .int .i64 x.master, .int .i64 x.seed, .int .i64 x.round, v_replaced, .int .i64 x.cancelled] 29 (0, 0)) := blk hb (setc_other K0.out (by omega))
  have k1 : w2.heap[(w.heap.size + 1)]? = some (.cells #[.int .i64 0, .slice none 0 0, .slice none 0 0, .int .i64 0, .slice none 0 0, .int .i64 0, .int .i64 0, .int .i64 0, .slice none 0 0, .int .i64 0] 38 (0, 0)) := blk hb (setc_other K1.out (by omega))
  have k2 : w2.heap[(w.heap.size + 1 + 1)]? = some (.cells #[.int .i64 x.rows, .slice oa_servers n_servers cap_servers, .slice none 0 0, .int .i64 0, .slice none 0 0, .int .i64 0, .int .i64 0, .int .i64 0, .slice none 0 0, .int .i64 0] 38 (0, 0)) := (blk hb (setc_same K2.out)).trans (by kernel_rfl)
  have hB2 : Below w.heap.size w w2 := Below.trans (by repeat (first | with_reducible exact hB1 | refine Below.setCell ?_ (by simp <;> omega) _)) (hb.mono (by simp [World.setCell]; omega))
  have hz2 : (w.heap.size + 1 + 1 + 1) ≤ w2.heap.size := by have := hb.size; simp [World.setCell] at this; omega
  have hA : Agree w1 w2 (g_servers) := Agree.trans (Agree.trans (Agree.refl _ _) (agree_setc (hO1.out.ne (by omega)))) (agree_below hb (fun b h => by have := hO1.out.lt b h; simp [World.setCell]; exact this))
  have R_servers := Lib.hid (Sl.agree good_Srv R_servers.out hA)
  have hO2 := Lib.hid (Own.app (hO1.out.agree hA) hO1.out.lt (show Own w1.heap.size w2 g_devices by simpa [World.setCell] using hO) hz1)
  have R_devices := Lib.hid hS
  clear hb hS hO hA
  have c0 := cellB k0; have c1 := cellB k1; have f1 := frzB k1; have c2 := cellB k2; have f2 := frzB k2
  have K0 := Lib.hid k0; have K1 := Lib.hid k1; have K2 := Lib.hid k2; clear k0 k1 k2
  go_wp2_with fail
  have hW : ∀ W, Below w.heap.size w W → EArc W _ x.archive _ := fun W hb => good_Arc.agree H_archive.out (agree_below (B := w.heap.size) hb (good_Arc.lt H_archive.out))
  have HW := Lib.hid hW; clear hW
  refine (toArchive _ _ _ _ (HW.out _ ?hbel2) z_archive).mono ?_
  case hbel2 => repeat (first | with_reducible exact hB2 | refine Below.setCell ?_ (by simp <;> omega) _)
  rintro e w3 ⟨rc_archive, g_archive, rfl, hb, hS, hO⟩
  have hS0 := hS
  obtain ⟨vr_archive_rounds, fr_archive_rounds, rfl, hr_archive_rounds, _⟩ := hS
  obtain ⟨oavr_archive_rounds, nvr_archive_rounds, capvr_archive_rounds, rfl⟩ := Sl.form hr_archive_rounds
  clear hr_archive_rounds
  have hS := hS0; clear hS0
  have k0 : w3.heap[w.heap.size]? = some (.cells #[.int .i64 x.rows, v_servers, v_devices, .int .i64 x.archive.rows, v_archive_rounds, .int .i64 x.master, .int .i64 x.seed, .int .i64 x.round, v_replaced, .int .i64 x.cancelled] 29 (0, 0)) := blk hb (setc_other K0.out (by omega))
  have k1 : w3.heap[(w.heap.size + 1)]? = some (.cells #[.int .i64 0, .slice none 0 0, .slice none 0 0, .int .i64 0, .slice none 0 0, .int .i64 0, .int .i64 0, .int .i64 0, .slice none 0 0, .int .i64 0] 38 (0, 0)) := blk hb (setc_other K1.out (by omega))
  have k2 : w3.heap[(w.heap.size + 1 + 1)]? = some (.cells #[.int .i64 x.rows, .slice oa_servers n_servers cap_servers, .slice oa_devices n_devices cap_devices, .int .i64 0, .slice none 0 0, .int .i64 0, .int .i64 0, .int .i64 0, .slice none 0 0, .int .i64 0] 38 (0, 0)) := (blk hb (setc_same K2.out)).trans (by kernel_rfl)
  have hB3 : Below w.heap.size w w3 := Below.trans (by repeat (first | with_reducible exact hB2 | refine Below.setCell ?_ (by simp <;> omega) _)) (hb.mono (by simp [World.setCell]; omega))
  have hz3 : (w.heap.size + 1 + 1 + 1) ≤ w3.heap.size := by have := hb.size; simp [World.setCell] at this; omega
  have hA : Agree w2 w3 (g_servers ++ g_devices) := Agree.trans (Agree.trans (Agree.refl _ _) (agree_setc (hO2.out.ne (by omega)))) (agree_below hb (fun b h => by have := hO2.out.lt b h; simp [World.setCell]; exact this))
  have R_servers := Lib.hid (Sl.agree good_Srv R_servers.out (Agree.sub hA (fun b h => by simp [h])))
  have R_devices := Lib.hid (Sl.agree good_Dev R_devices.out (Agree.sub hA (fun b h => by simp [h])))
  have hO3 := Lib.hid (Own.app (hO2.out.agree hA) hO2.out.lt (show Own w2.heap.size w3 g_archive by simpa [World.setCell] using hO) hz2)
  have R_archive := Lib.hid hS
  clear hb hS hO hA
  have c0 := cellB k0; have c1 := cellB k1; have f1 := frzB k1; have c2 := cellB k2; have f2 := frzB k2
  have K0 := Lib.hid k0; have K1 := Lib.hid k1; have K2 := Lib.hid k2; clear k0 k1 k2
  go_wp2_with fail
  have hW : ∀ W, Below w.heap.size w W → Sl 1 EInt W _ x.replaced _ := fun W hb => Sl.agree good_int H_replaced.out (agree_below (B := w.heap.size) hb (Sl.lt good_int H_replaced.out))
  have HW := Lib.hid hW; clear hW
  refine (toIntS _ _ _ _ (HW.out _ ?hbel3) z_replaced).mono ?_
  case hbel3 => repeat (first | with_reducible exact hB3 | refine Below.setCell ?_ (by simp <;> omega) _)
  rintro e w4 ⟨r_replaced, g_replaced, rfl, hb, hR⟩
  obtain ⟨oa_replaced, n_replaced, cap_replaced, rfl⟩ := Sl.form hR.sl
  have hS := hR.sl; have hO := hR.own; clear hR
  have k0 : w4.heap[w.heap.size]? = some (.cells #[.int .i64 x.rows, v_servers, v_devices, .int .i64 x.archive.rows, v_archive_rounds, .int .i64 x.master, .int .i64 x.seed, .int .i64 x.round, v_replaced, .int .i64 x.cancelled] 29 (0, 0)) := blk hb (setc_other (setc_other (setc_other (setc_other (setc_other K0.out (by omega)) (by omega)) (by omega)) (by omega)) (by omega))
  have k1 : w4.heap[(w.heap.size + 1)]? = some (.cells #[.int .i64 0, .slice none 0 0, .slice none 0 0, .int .i64 0, .slice none 0 0, .int .i64 0, .int .i64 0, .int .i64 0, .slice none 0 0, .int .i64 0] 38 (0, 0)) := blk hb (setc_other (setc_other (setc_other (setc_other (setc_other K1.out (by omega)) (by omega)) (by omega)) (by omega)) (by omega))
  have k2 : w4.heap[(w.heap.size + 1 + 1)]? = some (.cells #[.int .i64 x.rows, .slice oa_servers n_servers cap_servers, .slice oa_devices n_devices cap_devices, .int .i64 x.archive.rows, .slice oavr_archive_rounds nvr_archive_rounds capvr_archive_rounds, .int .i64 x.master, .int .i64 x.seed, .int .i64 x.round, .slice none 0 0, .int .i64 0] 38 (0, 0)) := (blk hb (setc_same (setc_same (setc_same (setc_same (setc_same K2.out)))))).trans (by kernel_rfl)
  have hB4 : Below w.heap.size w w4 := Below.trans (by repeat (first | with_reducible exact hB3 | refine Below.setCell ?_ (by simp <;> omega) _)) (hb.mono (by simp [World.setCell]; omega))
  have hz4 : (w.heap.size + 1 + 1 + 1) ≤ w4.heap.size := by have := hb.size; simp [World.setCell] at this; omega
  have hA : Agree w3 w4 (g_servers ++ g_devices ++ g_archive) := Agree.trans (Agree.trans (Agree.trans (Agree.trans (Agree.trans (Agree.trans (Agree.refl _ _) (agree_setc (hO3.out.ne (by omega)))) (agree_setc (hO3.out.ne (by omega)))) (agree_setc (hO3.out.ne (by omega)))) (agree_setc (hO3.out.ne (by omega)))) (agree_setc (hO3.out.ne (by omega)))) (agree_below hb (fun b h => by have := hO3.out.lt b h; simp [World.setCell]; exact this))
  have R_servers := Lib.hid (Sl.agree good_Srv R_servers.out (Agree.sub hA (fun b h => by simp [h])))
  have R_devices := Lib.hid (Sl.agree good_Dev R_devices.out (Agree.sub hA (fun b h => by simp [h])))
  have R_archive := Lib.hid (good_Arc.agree R_archive.out (Agree.sub hA (fun b h => by simp [h])))
  have hO4 := Lib.hid (Own.app (hO3.out.agree hA) hO3.out.lt (show Own w3.heap.size w4 g_replaced by simpa [World.setCell] using hO) hz3)
  have R_replaced := Lib.hid hS
  clear hb hS hO hA
  have c0 := cellB k0; have c1 := cellB k1; have f1 := frzB k1; have c2 := cellB k2; have f2 := frzB k2
  have K0 := Lib.hid k0; have K1 := Lib.hid k1; have K2 := Lib.hid k2; clear k0 k1 k2
  have HK2 : ((w4.setCell ⟨(w.heap.size + 1 + 1), 8, none⟩ (.slice oa_replaced n_replaced cap_replaced)).setCell ⟨(w.heap.size + 1 + 1), 9, none⟩ (.int .i64 x.cancelled)).heap[(w.heap.size + 1 + 1)]? = some (.cells #[.int .i64 x.rows, .slice oa_servers n_servers cap_servers, .slice oa_devices n_devices cap_devices, .int .i64 x.archive.rows, .slice oavr_archive_rounds nvr_archive_rounds capvr_archive_rounds, .int .i64 x.master, .int .i64 x.seed, .int .i64 x.round, .slice oa_replaced n_replaced cap_replaced, .int .i64 x.cancelled] 38 (0, 0)) := ((setc_same (setc_same K2.out))).trans (by kernel_rfl)
  have HK1 : ((w4.setCell ⟨(w.heap.size + 1 + 1), 8, none⟩ (.slice oa_replaced n_replaced cap_replaced)).setCell ⟨(w.heap.size + 1 + 1), 9, none⟩ (.int .i64 x.cancelled)).heap[(w.heap.size + 1)]? = some (.cells #[.int .i64 0, .slice none 0 0, .slice none 0 0, .int .i64 0, .slice none 0 0, .int .i64 0, .int .i64 0, .int .i64 0, .slice none 0 0, .int .i64 0] 38 (0, 0)) := (setc_other (setc_other K1.out (by omega)) (by omega))
  have HR := Lib.hid (show World.rangeAt ((w4.setCell ⟨(w.heap.size + 1 + 1), 8, none⟩ (.slice oa_replaced n_replaced cap_replaced)).setCell ⟨(w.heap.size + 1 + 1), 9, none⟩ (.int .i64 x.cancelled)) (w.heap.size + 1 + 1) 0 [.int .i64 x.rows, .slice oa_servers n_servers cap_servers, .slice oa_devices n_devices cap_devices, .int .i64 x.archive.rows, .slice oavr_archive_rounds nvr_archive_rounds capvr_archive_rounds, .int .i64 x.master, .int .i64 x.seed, .int .i64 x.round, .slice oa_replaced n_replaced cap_replaced, .int .i64 x.cancelled] from rangeB HK2)
  have HT := Lib.hid (show World.there ((w4.setCell ⟨(w.heap.size + 1 + 1), 8, none⟩ (.slice oa_replaced n_replaced cap_replaced)).setCell ⟨(w.heap.size + 1 + 1), 9, none⟩ (.int .i64 x.cancelled)) (w.heap.size + 1) 0 10 from thereB HK1 0 10 (by simp))
  have HO := Lib.hid (show ∀ u, u ∈ ([.int .i64 x.rows, .slice oa_servers n_servers cap_servers, .slice oa_devices n_devices cap_devices, .int .i64 x.archive.rows, .slice oavr_archive_rounds nvr_archive_rounds capvr_archive_rounds, .int .i64 x.master, .int .i64 x.seed, .int .i64 x.round, .slice oa_replaced n_replaced cap_replaced, .int .i64 x.cancelled] : List Value) → u.oneCell' = true from (ones_cons rfl (ones_cons rfl (ones_cons rfl (ones_cons rfl (ones_cons rfl (ones_cons rfl (ones_cons rfl (ones_cons rfl (ones_cons rfl (ones_cons rfl ones_nil)))))))))))
  clear HK1 HK2
  go_wp2_with (first | ((with_reducible refine wpList_ld (op := ⟨some 35, _, _, _, _, _⟩) row_Wld_impl HR.out rfl rfl rfl ?_ ?_); exact rfl) | ((with_reducible refine wpList_st (op := ⟨none, _, _, _, _, _⟩) row_Wld_impl HT.out rfl HO.out rfl rfl ?_ ?_ ?_); exact rfl; exact rfl))
  refine bodyPost_ret (v := .agg #[.int .i64 x.rows, .slice oa_servers n_servers cap_servers, .slice oa_devices n_devices cap_devices, .int .i64 x.archive.rows, .slice oavr_archive_rounds nvr_archive_rounds capvr_archive_rounds, .int .i64 x.master, .int .i64 x.seed, .int .i64 x.round, .slice oa_replaced n_replaced cap_replaced, .int .i64 x.cancelled]) (results_cell rfl (w.heap.size + 1) rfl [.int .i64 x.rows, .slice oa_servers n_servers cap_servers, .slice oa_devices n_devices cap_devices, .int .i64 x.archive.rows, .slice oavr_archive_rounds nvr_archive_rounds capvr_archive_rounds, .int .i64 x.master, .int .i64 x.seed, .int .i64 x.round, .slice oa_replaced n_replaced cap_replaced, .int .i64 x.cancelled] (World.rangeAt_setCells_same _ _ _ _ HT.out) row_Wld_impl rfl) rfl ?_
  have hA : Agree w4 (((w4.setCell ⟨(w.heap.size + 1 + 1), 8, none⟩ (.slice oa_replaced n_replaced cap_replaced)).setCell ⟨(w.heap.size + 1 + 1), 9, none⟩ (.int .i64 x.cancelled)).setCells (w.heap.size + 1) 0 [.int .i64 x.rows, .slice oa_servers n_servers cap_servers, .slice oa_devices n_devices cap_devices, .int .i64 x.archive.rows, .slice oavr_archive_rounds nvr_archive_rounds capvr_archive_rounds, .int .i64 x.master, .int .i64 x.seed, .int .i64 x.round, .slice oa_replaced n_replaced cap_replaced, .int .i64 x.cancelled]) (g_servers ++ g_devices ++ g_archive ++ g_replaced) := Agree.trans (Agree.trans (Agree.trans (Agree.refl _ _) (agree_setc (hO4.out.ne (by omega)))) (agree_setc (hO4.out.ne (by omega)))) (agree_setcs (hO4.out.ne (by omega)))
  refine ⟨[.int .i64 x.rows, .slice oa_servers n_servers cap_servers, .slice oa_devices n_devices cap_devices, .int .i64 x.archive.rows, .slice oavr_archive_rounds nvr_archive_rounds capvr_archive_rounds, .int .i64 x.master, .int .i64 x.seed, .int .i64 x.round, .slice oa_replaced n_replaced cap_replaced, .int .i64 x.cancelled], g_servers ++ g_devices ++ g_archive ++ g_replaced, rfl, ?_, ?_, ?_⟩
  · exact below_setCells (a := w) (w := ((w4.setCell ⟨(w.heap.size + 1 + 1), 8, none⟩ (.slice oa_replaced n_replaced cap_replaced)).setCell ⟨(w.heap.size + 1 + 1), 9, none⟩ (.int .i64 x.cancelled))) (g := (w.heap.size + 1)) (by repeat (first | with_reducible exact hB4 | refine Below.setCell ?_ (by simp <;> omega) _)) (by omega) 0 [.int .i64 x.rows, .slice oa_servers n_servers cap_servers, .slice oa_devices n_devices cap_devices, .int .i64 x.archive.rows, .slice oavr_archive_rounds nvr_archive_rounds capvr_archive_rounds, .int .i64 x.master, .int .i64 x.seed, .int .i64 x.round, .slice oa_replaced n_replaced cap_replaced, .int .i64 x.cancelled]
  · exact ⟨_, _, _, _, _, _, _, _, rfl, Sl.agree good_Srv R_servers.out (Agree.sub hA (fun b h => by simp [h])), Sl.agree good_Dev R_devices.out (Agree.sub hA (fun b h => by simp [h])), good_Arc.agree R_archive.out (Agree.sub hA (fun b h => by simp [h])), Sl.agree good_int R_replaced.out (Agree.sub hA (fun b h => by simp [h])), rfl⟩
  · exact (hO4.out.agree hA).mono (by omega)

end Go.Proofs.Ytfiaikmlnemnfaa.C
