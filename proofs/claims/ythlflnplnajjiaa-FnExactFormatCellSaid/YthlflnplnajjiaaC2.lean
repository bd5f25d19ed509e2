/-
  Contracts of the laws own functions: copies.
-/
import Derived.Test.YthlflnplnajjiaaC0
namespace Go.Proofs.Ythlflnplnajjiaa.C
open Go.RowKit L D

set_option maxHeartbeats 400000 in
set_option maxRecDepth 100000 in
theorem toByteS (w : World) (v : Value) (l : (List UInt8)) (fp : List Nat) (h : Sl 1 EU8 w v l fp) (hsz : l.length ≤ 1048576) :
    Calls Try.prog 18 #[v] w (Fresh 1 EU8 5 w l) := by
  have HX := Lib.hid h
  obtain ⟨oa, cap, rfl, hc, hm, _⟩ := h
  obtain ⟨n, hl⟩ : ∃ n, n = l.length := ⟨_, rfl⟩
  have hln : n ≤ 1048576 := by omega
  rw [← hl] at hc HX ⊢
  have HL := Lib.hid hl; clear hl
  unfold maxLen at hm
  obtain ⟨ie, hi, hz0, hz1, hz2⟩ := info_parts infz_Byte_impl
  go_enter Try.func18, Try.ntmps18
  go_wp2_with (at_make; refine wpList_make_full _ rfl _ _ 30 rfl w.heap.size 5 ie _ 1 Try.underlying30 hi hz0 hz1 _ _ _ _ n rfl rfl rfl rfl (by rw [hz2]; omega) (by unfold maxLen; omega) (Nat.le_refl _) ?_)
  intro w1 hrow hgr
  have hp := Part.start (α := UInt8) (E := EU8) hrow
  have hb1 : Below w.heap.size w w1 := (Below.refl _ _).grown hgr (Nat.le_refl _) (by simp)
  have hz : w.heap.size < w1.heap.size := hp.own.lt _ (by simp)
  clear hrow hgr hz0 hz1 hz2 hi
  go_wp2_with fail
  go_loopw [4] (fun i wr => ∃ k : Nat, k ≤ n ∧ i = .int .i64 k ∧ ∃ fps, Part 1 EU8 w.heap.size 5 wr w.heap.size n (l.take k) fps ∧ Below w.heap.size w wr ∧ w.heap.size < wr.heap.size) (fun i _ => n - (intOf i).toNat)
  case atStart => exact ⟨0, by omega, rfl, [], by simpa using hp, hb1, hz⟩
  case round =>
    obtain ⟨k, hk, rfl, fps, hp, hb, hz⟩ := hrel
    by_cases hk2 : k < n
    · obtain ⟨x, hx⟩ := getE (l := l) (k := k) (by have := HL.out; omega)
      obtain ⟨b, off, f, cs, rfl, hr, hE, _⟩ := (Sl.below good_u8 HX.out hb).at hx
      have HY := Lib.hid hx
      have HP := Lib.hid hp
      have hlt := Lib.hid (show (l.take k).length = k by rw [List.length_take]; have := HL.out; omega)
      clear hx hp
      obtain ⟨rfl, rfl⟩ := hE
      have hc0 : wr.cell? ⟨b, off + k, none⟩ = some (.int .u8 x.toNat) := by have := hr 0 _ rfl; simpa using this
      have hth := HP.out.there k hk2 0 (by omega)
      simp only [Nat.mul_one, Nat.add_zero] at hth
      obtain ⟨hs, hfz⟩ := hth
      obtain ⟨old, hold⟩ := Option.isSome_iff_exists.1 hs
      have hp2 := HP.out.push good_u8 (by rw [hlt.out]; exact hk2) (f := []) (x := x) (cs := [.int .u8 x.toNat]) ⟨rfl, rfl⟩ (Own.nil _ _) (by simp)
      rw [hlt.out, Nat.mul_one] at hp2
      have HP3 : Hid (Part 1 EU8 w.heap.size 5 (wr.setCell ⟨w.heap.size, k, none⟩ (.int .u8 x.toNat)) w.heap.size n (l.take (k + 1)) (fps ++ [[]])) := Lib.hid (by
        rw [List.take_add_one, HY.out]; exact hp2)
      have HB2 := Lib.hid (hb.setCell (p := ⟨w.heap.size, k, none⟩) (Nat.le_refl _) (.int .u8 x.toNat))
      clear hr hp2 hs
      go_wp2_with fail
      go_roundw
      case rel => exact ⟨k + 1, by omega, by go_num, _, HP3.out, HB2.out, by simp [World.setCell]; exact hz⟩
      case measure => simp [intOf]; omega
    · have hkn : k = n := by omega
      subst hkn
      have hd : Bld 1 EU8 w.heap.size 5 wr (.slice (some ⟨w.heap.size, 0, none⟩) k k) l (w.heap.size :: fps.flatten) := by
        have := hp.done good_u8 (by rw [List.length_take]; have := HL.out; omega)
        rw [List.take_of_length_le (by have := HL.out; omega)] at this
        exact this
      clear hp
      have HD := Lib.hid hd; clear hd
      go_wp2
      go_ret
      exact ⟨_, _, rfl, hb, HD.out⟩


set_option maxHeartbeats 400000 in
set_option maxRecDepth 100000 in
theorem toIntS (w : World) (v : Value) (l : (List Int)) (fp : List Nat) (h : Sl 1 EInt w v l fp) (hsz : l.length ≤ 1048576) :
    Calls Try.prog 14 #[v] w (Fresh 1 EInt 3 w l) := by
  have HX := Lib.hid h
  obtain ⟨oa, cap, rfl, hc, hm, _⟩ := h
  obtain ⟨n, hl⟩ : ∃ n, n = l.length := ⟨_, rfl⟩
  have hln : n ≤ 1048576 := by omega
  rw [← hl] at hc HX ⊢
  have HL := Lib.hid hl; clear hl
  unfold maxLen at hm
  obtain ⟨ie, hi, hz0, hz1, hz2⟩ := info_parts infz_Int_impl
  go_enter Try.func14, Try.ntmps14
  go_wp2_with (at_make; refine wpList_make_full _ rfl _ _ 25 rfl w.heap.size 3 ie _ 1 Try.underlying25 hi hz0 hz1 _ _ _ _ n rfl rfl rfl rfl (by rw [hz2]; omega) (by unfold maxLen; omega) (Nat.le_refl _) ?_)
  intro w1 hrow hgr
  have hp := Part.start (α := Int) (E := EInt) hrow
  have hb1 : Below w.heap.size w w1 := (Below.refl _ _).grown hgr (Nat.le_refl _) (by simp)
  have hz : w.heap.size < w1.heap.size := hp.own.lt _ (by simp)
  clear hrow hgr hz0 hz1 hz2 hi
  go_wp2_with fail
  go_loopw [4] (fun i wr => ∃ k : Nat, k ≤ n ∧ i = .int .i64 k ∧ ∃ fps, Part 1 EInt w.heap.size 3 wr w.heap.size n (l.take k) fps ∧ Below w.heap.size w wr ∧ w.heap.size < wr.heap.size) (fun i _ => n - (intOf i).toNat)
  case atStart => exact ⟨0, by omega, rfl, [], by simpa using hp, hb1, hz⟩
  case round =>
    obtain ⟨k, hk, rfl, fps, hp, hb, hz⟩ := hrel
    by_cases hk2 : k < n
    · obtain ⟨x, hx⟩ := getE (l := l) (k := k) (by have := HL.out; omega)
      obtain ⟨b, off, f, cs, rfl, hr, hE, _⟩ := (Sl.below good_int HX.out hb).at hx
      have HY := Lib.hid hx
      have HP := Lib.hid hp
      have hlt := Lib.hid (show (l.take k).length = k by rw [List.length_take]; have := HL.out; omega)
      clear hx hp
      obtain ⟨rfl, rfl⟩ := hE
      have hc0 : wr.cell? ⟨b, off + k, none⟩ = some (.int .i64 x) := by have := hr 0 _ rfl; simpa using this
      have hth := HP.out.there k hk2 0 (by omega)
      simp only [Nat.mul_one, Nat.add_zero] at hth
      obtain ⟨hs, hfz⟩ := hth
      obtain ⟨old, hold⟩ := Option.isSome_iff_exists.1 hs
      have hp2 := HP.out.push good_int (by rw [hlt.out]; exact hk2) (f := []) (x := x) (cs := [.int .i64 x]) ⟨rfl, rfl⟩ (Own.nil _ _) (by simp)
      rw [hlt.out, Nat.mul_one] at hp2
      have HP3 : Hid (Part 1 EInt w.heap.size 3 (wr.setCell ⟨w.heap.size, k, none⟩ (.int .i64 x)) w.heap.size n (l.take (k + 1)) (fps ++ [[]])) := Lib.hid (by
        rw [List.take_add_one, HY.out]; exact hp2)
      have HB2 := Lib.hid (hb.setCell (p := ⟨w.heap.size, k, none⟩) (Nat.le_refl _) (.int .i64 x))
      clear hr hp2 hs
      go_wp2_with fail
      go_roundw
      case rel => exact ⟨k + 1, by omega, by go_num, _, HP3.out, HB2.out, by simp [World.setCell]; exact hz⟩
      case measure => simp [intOf]; omega
    · have hkn : k = n := by omega
      subst hkn
      have hd : Bld 1 EInt w.heap.size 3 wr (.slice (some ⟨w.heap.size, 0, none⟩) k k) l (w.heap.size :: fps.flatten) := by
        have := hp.done good_int (by rw [List.length_take]; have := HL.out; omega)
        rw [List.take_of_length_le (by have := HL.out; omega)] at this
        exact this
      clear hp
      have HD := Lib.hid hd; clear hd
      go_wp2
      go_ret
      exact ⟨_, _, rfl, hb, HD.out⟩


set_option maxHeartbeats 800000 in
set_option maxRecDepth 100000 in
theorem toEvent (w : World) (cs : List Value) (x : Ev) (fp : List Nat) (hx : EEv w cs x fp) (hsz : size_Ev x ≤ 1048576) :
    Calls Try.prog 37 #[.agg cs.toArray] w (FreshC EEv w x) := by
  obtain ⟨v_body, f_body, rfl, h_body, rfl⟩ := hx
  have H_body := Lib.hid h_body
  clear h_body
  unfold size_Ev at hsz
  have z_body : List.length x.body ≤ 1048576 := by omega
  clear hsz
  go_enter Try.func37, Try.ntmps37
  go_wp2_with fail
  refine (toByteS _ _ _ _ (Sl.agree good_u8 H_body.out (agree_below (B := w.heap.size) (by repeat (first | with_reducible exact Below.refl _ _ | refine Below.alloc ?_ (by simp <;> omega) _)) (Sl.lt good_u8 H_body.out))) z_body).mono ?_
  rintro e w1 ⟨r_body, g_body, rfl, hb, hR⟩
  obtain ⟨oa_body, n_body, cap_body, rfl⟩ := Sl.form hR.sl
  have hS := hR.sl; have hO := hR.own; clear hR
  have k0 : w1.heap[w.heap.size]? = some (.cells #[.int .i64 x.kind, .int .i64 x.node, .int .i64 x.value, v_body] 54 (0, 0)) := blk hb (alloc_old (alloc_old (alloc_top rfl)))
  have k1 : w1.heap[(w.heap.size + 1)]? = some (.cells #[.int .i64 0, .int .i64 0, .int .i64 0, .slice none 0 0] 55 (0, 0)) := blk hb (alloc_old (alloc_top (by simp)))
  have k2 : w1.heap[(w.heap.size + 1 + 1)]? = some (.cells #[.int .i64 x.kind, .int .i64 x.node, .int .i64 x.value, .slice none 0 0] 55 (0, 0)) := blk hb (alloc_top (by simp))
  have hB1 : Below w.heap.size w w1 := Below.trans (by repeat (first | with_reducible exact Below.refl _ _ | refine Below.alloc ?_ (by simp <;> omega) _)) (hb.mono (by simp <;> omega))
  have hz1 : (w.heap.size + 1 + 1 + 1) ≤ w1.heap.size := by have := hb.size; simp at this; omega
  have hO1 := Lib.hid (show Own (w.heap.size + 1 + 1 + 1) w1 g_body by simpa using hO)
  have R_body := Lib.hid hS
  clear hb hS hO
  have c0 := cellB k0; have c1 := cellB k1; have f1 := frzB k1; have c2 := cellB k2; have f2 := frzB k2
  have K0 := Lib.hid k0; have K1 := Lib.hid k1; have K2 := Lib.hid k2; clear k0 k1 k2
  have HK2 : (w1.setCell ⟨(w.heap.size + 1 + 1), 3, none⟩ (.slice oa_body n_body cap_body)).heap[(w.heap.size + 1 + 1)]? = some (.cells #[.int .i64 x.kind, .int .i64 x.node, .int .i64 x.value, .slice oa_body n_body cap_body] 55 (0, 0)) := ((setc_same K2.out)).trans (by kernel_rfl)
  have HK1 : (w1.setCell ⟨(w.heap.size + 1 + 1), 3, none⟩ (.slice oa_body n_body cap_body)).heap[(w.heap.size + 1)]? = some (.cells #[.int .i64 0, .int .i64 0, .int .i64 0, .slice none 0 0] 55 (0, 0)) := (setc_other K1.out (by omega))
  have HR := Lib.hid (show World.rangeAt (w1.setCell ⟨(w.heap.size + 1 + 1), 3, none⟩ (.slice oa_body n_body cap_body)) (w.heap.size + 1 + 1) 0 [.int .i64 x.kind, .int .i64 x.node, .int .i64 x.value, .slice oa_body n_body cap_body] from rangeB HK2)
  have HT := Lib.hid (show World.there (w1.setCell ⟨(w.heap.size + 1 + 1), 3, none⟩ (.slice oa_body n_body cap_body)) (w.heap.size + 1) 0 4 from thereB HK1 0 4 (by simp))
  have HO := Lib.hid (show ∀ u, u ∈ ([.int .i64 x.kind, .int .i64 x.node, .int .i64 x.value, .slice oa_body n_body cap_body] : List Value) → u.oneCell' = true from (ones_cons rfl (ones_cons rfl (ones_cons rfl (ones_cons rfl ones_nil)))))
  clear HK1 HK2
  go_wp2_with (first | ((with_reducible refine wpList_ld (op := ⟨some 17, _, _, _, _, _⟩) row_Ev_impl HR.out rfl rfl rfl ?_ ?_); exact rfl) | ((with_reducible refine wpList_st (op := ⟨none, _, _, _, _, _⟩) row_Ev_impl HT.out rfl HO.out rfl rfl ?_ ?_ ?_); exact rfl; exact rfl))
  refine bodyPost_ret (v := .agg #[.int .i64 x.kind, .int .i64 x.node, .int .i64 x.value, .slice oa_body n_body cap_body]) (results_cell rfl (w.heap.size + 1) rfl [.int .i64 x.kind, .int .i64 x.node, .int .i64 x.value, .slice oa_body n_body cap_body] (World.rangeAt_setCells_same _ _ _ _ HT.out) row_Ev_impl rfl) rfl ?_
  have hA : Agree w1 ((w1.setCell ⟨(w.heap.size + 1 + 1), 3, none⟩ (.slice oa_body n_body cap_body)).setCells (w.heap.size + 1) 0 [.int .i64 x.kind, .int .i64 x.node, .int .i64 x.value, .slice oa_body n_body cap_body]) (g_body) := Agree.trans (Agree.trans (Agree.refl _ _) (agree_setc (hO1.out.ne (by omega)))) (agree_setcs (hO1.out.ne (by omega)))
  refine ⟨[.int .i64 x.kind, .int .i64 x.node, .int .i64 x.value, .slice oa_body n_body cap_body], g_body, rfl, ?_, ?_, ?_⟩
  · exact below_setCells (a := w) (w := (w1.setCell ⟨(w.heap.size + 1 + 1), 3, none⟩ (.slice oa_body n_body cap_body))) (g := (w.heap.size + 1)) (by repeat (first | with_reducible exact hB1 | refine Below.setCell ?_ (by simp <;> omega) _)) (by omega) 0 [.int .i64 x.kind, .int .i64 x.node, .int .i64 x.value, .slice oa_body n_body cap_body]
  · exact ⟨_, _, rfl, Sl.agree good_u8 R_body.out hA, rfl⟩
  · exact (hO1.out.agree hA).mono (by omega)


set_option maxHeartbeats 400000 in
set_option maxRecDepth 100000 in
theorem toEventS (w : World) (v : Value) (l : (List Ev)) (fp : List Nat) (h : Sl 4 EEv w v l fp) (hsz : lsz size_Ev l ≤ 1048576) :
    Calls Try.prog 23 #[v] w (Fresh 4 EEv 55 w l) := by
  have HX := Lib.hid h
  obtain ⟨oa, cap, rfl, hc, hm, _⟩ := h
  obtain ⟨n, hl⟩ : ∃ n, n = l.length := ⟨_, rfl⟩
  have hln : n ≤ 1048576 := by have := lsz_len hsz; omega
  rw [← hl] at hc HX ⊢
  have HL := Lib.hid hl; clear hl
  unfold maxLen at hm
  obtain ⟨ie, hi, hz0, hz1, hz2⟩ := info_parts infz_Event_impl
  go_enter Try.func23, Try.ntmps23
  go_wp2_with (at_make; refine wpList_make_full _ rfl _ _ 38 rfl w.heap.size 55 ie _ 4 Try.underlying38 hi hz0 hz1 _ _ _ _ n rfl rfl rfl rfl (by rw [hz2]; omega) (by unfold maxLen; omega) (Nat.le_refl _) ?_)
  intro w1 hrow hgr
  have hp := Part.start (α := Ev) (E := EEv) hrow
  have hb1 : Below w.heap.size w w1 := (Below.refl _ _).grown hgr (Nat.le_refl _) (by simp)
  have hz : w.heap.size < w1.heap.size := hp.own.lt _ (by simp)
  clear hrow hgr hz0 hz1 hz2 hi
  go_wp2_with fail
  go_loopw [4] (fun i wr => ∃ k : Nat, k ≤ n ∧ i = .int .i64 k ∧ ∃ fps, Part 4 EEv w.heap.size 55 wr w.heap.size n (l.take k) fps ∧ Below w.heap.size w wr ∧ w.heap.size < wr.heap.size) (fun i _ => n - (intOf i).toNat)
  case atStart => exact ⟨0, by omega, rfl, [], by simpa using hp, hb1, hz⟩
  case round =>
    obtain ⟨k, hk, rfl, fps, hp, hb, hz⟩ := hrel
    by_cases hk2 : k < n
    · obtain ⟨x, hx⟩ := getE (l := l) (k := k) (by have := HL.out; omega)
      obtain ⟨b, off, f, cs, rfl, hr, hE, _⟩ := (Sl.below good_Ev HX.out hb).at hx
      have HY := Lib.hid hx
      have HP := Lib.hid hp
      have hlt := Lib.hid (show (l.take k).length = k by rw [List.length_take]; have := HL.out; omega)
      clear hx hp
      have hsx := lsz_mem hsz HY.out
      have HR := Lib.hid hr
      have hcs := Lib.hid (good_Ev.len hE)
      have HE := Lib.hid hE; clear hE hr
      go_wp2_with ((with_reducible refine wpList_ld (op := ⟨some 19, _, _, _, _, _⟩) row_Ev_laws HR.out hcs.out rfl rfl ?_ ?_); exact rfl)
      refine (toEvent _ _ _ _ HE.out hsx).mono ?_
      rintro e w2 ⟨cs2, f2, rfl, hb2, hE2, hO2⟩
      have hp1 := HP.out.below good_Ev hb2
      have hb3 := hb.trans (hb2.mono (Nat.le_of_lt hz))
      have hz2 := hb2.size
      have hs2 := good_Ev.len hE2
      have HT := Lib.hid (hp1.there k hk2)
      have HS2 := Lib.hid hs2
      have HO := Lib.hid (good_Ev.one hE2)
      have hp2 := hp1.push good_Ev (by rw [hlt.out]; exact hk2) (f := f2) (x := x) (cs := cs2) hE2 (hO2.mono (Nat.le_of_lt hz)) (fun b hb hm => by have h1 := hO2.ge b hb; have h2 := HP.out.own.lt b hm; omega)
      rw [hlt.out] at hp2
      have HP3 : Hid (Part 4 EEv w.heap.size 55 (w2.setCells w.heap.size (k * 4) cs2) w.heap.size n (l.take (k + 1)) (fps ++ [f2])) := Lib.hid (by
        rw [List.take_add_one, HY.out]; exact hp2)
      have HB2 := Lib.hid (below_setCells hb3 (Nat.le_refl _) (k * 4) cs2)
      have hz3 : w.heap.size < w2.heap.size := by omega
      clear hp2 hp1 hb3 hE2 hO2 hb2 hz2 hs2
      go_wp2_with ((with_reducible refine wpList_st (op := ⟨none, _, _, _, _, _⟩) row_Ev_impl HT.out HS2.out HO.out rfl rfl ?_ ?_ ?_); exact rfl; exact rfl)
      go_wp2_with fail
      go_roundw
      case rel => exact ⟨k + 1, by omega, by go_num, _, HP3.out, HB2.out, by rw [setCells_size]; exact hz3⟩
      case measure => simp [intOf]; omega
    · have hkn : k = n := by omega
      subst hkn
      have hd : Bld 4 EEv w.heap.size 55 wr (.slice (some ⟨w.heap.size, 0, none⟩) k k) l (w.heap.size :: fps.flatten) := by
        have := hp.done good_Ev (by rw [List.length_take]; have := HL.out; omega)
        rw [List.take_of_length_le (by have := HL.out; omega)] at this
        exact this
      clear hp
      have HD := Lib.hid hd; clear hd
      go_wp2
      go_ret
      exact ⟨_, _, rfl, hb, HD.out⟩

end Go.Proofs.Ythlflnplnajjiaa.C
