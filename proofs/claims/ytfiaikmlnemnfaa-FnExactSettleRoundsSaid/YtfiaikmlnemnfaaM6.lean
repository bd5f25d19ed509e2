/-
  Contracts: how many rounds to settle.
-/
import Derived.Test.YtfiaikmlnemnfaaM4
import Derived.Deep.RegionHeld3
namespace Go.Proofs.Ytfiaikmlnemnfaa.C
open Go.RowKit L D

def mn (a b : Int) : Int := if b < a then b else a
def mx (a b : Int) : Int := if b > a then b else a
theorem spec_Min (w : World) (a b : Int) : Calls Try.prog 65 #[.int .i64 a, .int .i64 b] w (Gives w (.int .i64 (mn a b))) := by
  go_enter Try.func65, Try.ntmps65
  by_cases h : b < a
  · go_wp2
    go_ret
    exact ⟨ret_int (by rw [mn, if_pos h]), Below.refl _ _⟩
  · go_wp2
    go_ret
    exact ⟨ret_int (by unfold mn; rw [if_neg (by omega)]), Below.refl _ _⟩
theorem spec_Max (w : World) (a b : Int) : Calls Try.prog 66 #[.int .i64 a, .int .i64 b] w (Gives w (.int .i64 (mx a b))) := by
  go_enter Try.func66, Try.ntmps66
  by_cases h : b > a
  · go_wp2
    go_ret
    exact ⟨ret_int (by rw [mx, if_pos h]), Below.refl _ _⟩
  · go_wp2
    go_ret
    exact ⟨ret_int (by unfold mx; rw [if_neg (by omega)]), Below.refl _ _⟩
theorem mn3 (y : Int) : (if y < 400 then y else 400) = mn 400 y := rfl
theorem mx3 (a b : Int) : (if (if 0 < a then a else 0) < b then b else if 0 < a then a else 0) = mx 0 (mx a b) := by
  unfold mx; split <;> split <;> (try split) <;> (try split) <;> omega
def settle (x : Wld) : Int := mn 400 (IntKind.i64.wrap (20 + IntKind.i64.wrap (8 * mx 0 (mx (pending x.devices) (unread x.devices x.devices.length)))))

set_option maxRecDepth 100000 in
theorem spec_SettleRounds (w : World) (cs : List Value) (x : Wld) (fp : List Nat) (h : EWld w cs x fp) (_hs : size_Wld x ≤ 1048576) (_hw : wf_Wld x) :
    Calls Try.prog 28 #[.agg cs.toArray] w (Gives w (.int .i64 (settle x))) := by
  have H0 := Lib.hid h
  obtain ⟨v1, v2, cA, v3, f1, f2, f3, f4, rfl, _, h2, ⟨v4, f5, rfl, _, rfl⟩, _, rfl⟩ := h
  obtain ⟨oa, cap, rfl, _⟩ := h2
  have hB0 : Below w.heap.size w (w.alloc (.cells #[.int .i64 x.rows, v1, .slice oa x.devices.length cap, .int .i64 x.archive.rows, v4, .int .i64 x.master, .int .i64 x.seed, .int .i64 x.round, v3, .int .i64 x.cancelled] 38)) := (Below.refl _ _).alloc (Nat.le_refl _) _
  have k0 : (w.alloc (.cells #[.int .i64 x.rows, v1, .slice oa x.devices.length cap, .int .i64 x.archive.rows, v4, .int .i64 x.master, .int .i64 x.seed, .int .i64 x.round, v3, .int .i64 x.cancelled] 38)).heap[w.heap.size]? = some (.cells #[.int .i64 x.rows, v1, .slice oa x.devices.length cap, .int .i64 x.archive.rows, v4, .int .i64 x.master, .int .i64 x.seed, .int .i64 x.round, v3, .int .i64 x.cancelled] 38 (0, 0)) := alloc_top rfl
  have K0 := Lib.hid k0; clear k0
  go_enter Try.func28, Try.ntmps28
  go_wp2_with fail
  obtain ⟨d0, hu0, hd0, hi0⟩ := row_Wld_impl
  have HU0 := Lib.hid hu0; have HI0 := Lib.hid hi0; clear hu0 hi0
  refine wp_region_held (S := fun W => W.rangeAt w.heap.size 0 [.int .i64 x.rows, v1, .slice oa x.devices.length cap, .int .i64 x.archive.rows, v4, .int .i64 x.master, .int .i64 x.seed, .int .i64 x.round, v3, .int .i64 x.cancelled]) (by kernel_rfl) ?_
  refine wpAnyH_take (i := 0) (v := .agg #[.int .i64 x.rows, v1, .slice oa x.devices.length cap, .int .i64 x.archive.rows, v4, .int .i64 x.master, .int .i64 x.seed, .int .i64 x.round, v3, .int .i64 x.cancelled]) rfl (by kernel_rfl) (by kernel_rfl) (by kernel_rfl) (fun _ _ _ h => h) (yieldsIf_load_mid (by rfl) 38 _ rfl w.heap.size 0 rfl _ d0 (fun W h => h) HU0.out hd0 HI0.out) (rangeB K0.out) ?_
  simp only [Act.put, List.setIfInBounds_toArray, List.set_cons_succ, List.set_cons_zero]
  refine wpAnyH_take (i := 2) (v := .agg #[.int .i64 x.rows, v1, .slice oa x.devices.length cap, .int .i64 x.archive.rows, v4, .int .i64 x.master, .int .i64 x.seed, .int .i64 x.round, v3, .int .i64 x.cancelled]) rfl (by kernel_rfl) (by kernel_rfl) (by kernel_rfl) (fun _ _ _ h => h) (yieldsIf_load_mid (by rfl) 38 _ rfl w.heap.size 0 rfl _ d0 (fun W h => h) HU0.out hd0 HI0.out) (rangeB K0.out) ?_
  simp only [Act.put, List.setIfInBounds_toArray, List.set_cons_succ, List.set_cons_zero]
  have hB1 := hB0.drew
  have K1 := Lib.hid (show (w.alloc _).drew.heap[w.heap.size]? = _ from K0.out)
  refine wpAnyH_ready (rs := [1]) (by kernel_rfl) (by simp) ?_
  refine AllReadyH.cons rfl (fun K hK => ?_) AllReadyH.nil
  go_simp
  refine (spec_PendingMessages _ _ _ _ (good_Wld.below H0.out hB1) _hs _hw).mono ?_
  rintro e w2 ⟨rfl, hb2⟩
  have hB2 := hB1.trans (hb2.mono hB1.size)
  have K2 := Lib.hid (blk hb2 K1.out)
  refine hK.out _ _ (rangeB K2.out) (fun _ => ?_)
  clear hK K hb2
  refine wpAnyH_ready (rs := [3]) (by kernel_rfl) (by simp) ?_
  refine AllReadyH.cons rfl (fun K hK => ?_) AllReadyH.nil
  go_simp
  refine (spec_UnreadMessages _ _ _ _ (good_Wld.below H0.out hB2) _hs _hw).mono ?_
  rintro e w3 ⟨rfl, hb3⟩
  have hB3 := hB2.trans (hb3.mono hB2.size)
  have K3 := Lib.hid (blk hb3 K2.out)
  refine hK.out _ _ (rangeB K3.out) (fun _ => ?_)
  clear hK K hb3
  refine wpAnyH_ready (rs := [4]) (by kernel_rfl) (by simp) ?_
  refine AllReadyH.cons rfl (fun K hK => ?_) AllReadyH.nil
  go_simp
  refine (spec_Max _ _ _).mono ?_
  rintro e w4 ⟨rfl, hb4⟩
  have hB4 := hB3.trans (hb4.mono hB3.size)
  have K4 := Lib.hid (blk hb4 K3.out)
  refine hK.out _ _ (rangeB K4.out) (fun _ => ?_)
  clear hK K hb4
  refine wpAnyH_ready (rs := [5]) (by kernel_rfl) (by simp) ?_
  refine AllReadyH.cons rfl (fun K hK => ?_) AllReadyH.nil
  go_simp
  refine (spec_Max _ _ _).mono ?_
  rintro e w5 ⟨rfl, hb5⟩
  have hB5 := hB4.trans (hb5.mono hB4.size)
  have K5 := Lib.hid (blk hb5 K4.out)
  refine hK.out _ _ (rangeB K5.out) (fun _ => ?_)
  clear hK K hb5
  refine wpAnyH_ready (rs := [6]) (by kernel_rfl) (by simp) ?_
  refine AllReadyH.cons rfl (fun K hK => ?_) AllReadyH.nil
  go_simp
  refine hK.out _ _ (rangeB K5.out) (fun _ => ?_)
  clear hK K
  refine wpAnyH_ready (rs := [7]) (by kernel_rfl) (by simp) ?_
  refine AllReadyH.cons rfl (fun K hK => ?_) AllReadyH.nil
  go_simp
  refine hK.out _ _ (rangeB K5.out) (fun _ => ?_)
  clear hK K
  refine wpAnyH_ready (rs := [8]) (by kernel_rfl) (by simp) ?_
  refine AllReadyH.cons rfl (fun K hK => ?_) AllReadyH.nil
  go_simp
  refine (spec_Min _ _ _).mono ?_
  rintro e w6 ⟨rfl, hb6⟩
  have hB6 := hB5.trans (hb6.mono hB5.size)
  have K6 := Lib.hid (blk hb6 K5.out)
  refine hK.out _ _ (rangeB K6.out) (fun _ => ?_)
  clear hK K hb6
  refine wpAnyH_ready (rs := [9]) (by kernel_rfl) (by simp) ?_
  refine AllReadyH.cons rfl (fun K hK => ?_) AllReadyH.nil
  go_simp
  refine hK.out _ _ (rangeB K6.out) (fun _ => ?_)
  clear hK K
  refine wpAnyH_done (by kernel_rfl) ?_ _
  go_wp2
  go_ret
  exact ⟨rfl, hB6⟩
set_option maxRecDepth 100000 in
theorem impl_SettleRounds (w : World) (cs : List Value) (x : Wld) (fp : List Nat) (h : EWld w cs x fp) (_hs : size_Wld x ≤ 1048576) (_hw : wf_Wld x) :
    Calls Try.prog 29 #[.agg cs.toArray] w (Gives w (.int .i64 (settle x))) := by
  have H0 := Lib.hid h
  obtain ⟨v1, v2, cA, v3, f1, f2, f3, f4, rfl, _, h2, ⟨v4, f5, rfl, _, rfl⟩, _, rfl⟩ := h
  obtain ⟨oa, cap, rfl, _⟩ := h2
  have hB0 : Below w.heap.size w (w.alloc (.cells #[.int .i64 x.rows, v1, .slice oa x.devices.length cap, .int .i64 x.archive.rows, v4, .int .i64 x.master, .int .i64 x.seed, .int .i64 x.round, v3, .int .i64 x.cancelled] 38)) := (Below.refl _ _).alloc (Nat.le_refl _) _
  have k0 : (w.alloc (.cells #[.int .i64 x.rows, v1, .slice oa x.devices.length cap, .int .i64 x.archive.rows, v4, .int .i64 x.master, .int .i64 x.seed, .int .i64 x.round, v3, .int .i64 x.cancelled] 38)).heap[w.heap.size]? = some (.cells #[.int .i64 x.rows, v1, .slice oa x.devices.length cap, .int .i64 x.archive.rows, v4, .int .i64 x.master, .int .i64 x.seed, .int .i64 x.round, v3, .int .i64 x.cancelled] 38 (0, 0)) := alloc_top rfl
  have K0 := Lib.hid k0; clear k0
  go_enter Try.func29, Try.ntmps29
  go_wp2_with fail
  obtain ⟨d0, hu0, hd0, hi0⟩ := row_Wld_impl
  have HU0 := Lib.hid hu0; have HI0 := Lib.hid hi0; clear hu0 hi0
  refine wp_region_held (S := fun W => W.rangeAt w.heap.size 0 [.int .i64 x.rows, v1, .slice oa x.devices.length cap, .int .i64 x.archive.rows, v4, .int .i64 x.master, .int .i64 x.seed, .int .i64 x.round, v3, .int .i64 x.cancelled]) (by kernel_rfl) ?_
  refine wpAnyH_take (i := 0) (v := .agg #[.int .i64 x.rows, v1, .slice oa x.devices.length cap, .int .i64 x.archive.rows, v4, .int .i64 x.master, .int .i64 x.seed, .int .i64 x.round, v3, .int .i64 x.cancelled]) rfl (by kernel_rfl) (by kernel_rfl) (by kernel_rfl) (fun _ _ _ h => h) (yieldsIf_load_mid (by rfl) 38 _ rfl w.heap.size 0 rfl _ d0 (fun W h => h) HU0.out hd0 HI0.out) (rangeB K0.out) ?_
  simp only [Act.put, List.setIfInBounds_toArray, List.set_cons_succ, List.set_cons_zero]
  refine wpAnyH_take (i := 2) (v := .agg #[.int .i64 x.rows, v1, .slice oa x.devices.length cap, .int .i64 x.archive.rows, v4, .int .i64 x.master, .int .i64 x.seed, .int .i64 x.round, v3, .int .i64 x.cancelled]) rfl (by kernel_rfl) (by kernel_rfl) (by kernel_rfl) (fun _ _ _ h => h) (yieldsIf_load_mid (by rfl) 38 _ rfl w.heap.size 0 rfl _ d0 (fun W h => h) HU0.out hd0 HI0.out) (rangeB K0.out) ?_
  simp only [Act.put, List.setIfInBounds_toArray, List.set_cons_succ, List.set_cons_zero]
  have hB1 := hB0.drew
  have K1 := Lib.hid (show (w.alloc _).drew.heap[w.heap.size]? = _ from K0.out)
  refine wpAnyH_ready (rs := [1]) (by kernel_rfl) (by simp) ?_
  refine AllReadyH.cons rfl (fun K hK => ?_) AllReadyH.nil
  go_simp
  refine (impl_PendingMessages _ _ _ _ (good_Wld.below H0.out hB1) _hs _hw).mono ?_
  rintro e w2 ⟨rfl, hb2⟩
  have hB2 := hB1.trans (hb2.mono hB1.size)
  have K2 := Lib.hid (blk hb2 K1.out)
  refine hK.out _ _ (rangeB K2.out) (fun _ => ?_)
  clear hK K hb2
  refine wpAnyH_ready (rs := [3]) (by kernel_rfl) (by simp) ?_
  refine AllReadyH.cons rfl (fun K hK => ?_) AllReadyH.nil
  go_simp
  refine (impl_UnreadMessages _ _ _ _ (good_Wld.below H0.out hB2) _hs _hw).mono ?_
  rintro e w3 ⟨rfl, hb3⟩
  have hB3 := hB2.trans (hb3.mono hB2.size)
  have K3 := Lib.hid (blk hb3 K2.out)
  refine hK.out _ _ (rangeB K3.out) (fun _ => ?_)
  clear hK K hb3
  refine wpAnyH_ready (rs := [4]) (by kernel_rfl) (by simp) ?_
  refine AllReadyH.cons rfl (fun K hK => ?_) AllReadyH.nil
  go_simp
  rw [mx3]
  refine hK.out _ _ (rangeB K3.out) (fun _ => ?_)
  clear hK K
  refine wpAnyH_ready (rs := [5]) (by kernel_rfl) (by simp) ?_
  refine AllReadyH.cons rfl (fun K hK => ?_) AllReadyH.nil
  go_simp
  refine hK.out _ _ (rangeB K3.out) (fun _ => ?_)
  clear hK K
  refine wpAnyH_ready (rs := [6]) (by kernel_rfl) (by simp) ?_
  refine AllReadyH.cons rfl (fun K hK => ?_) AllReadyH.nil
  go_simp
  refine hK.out _ _ (rangeB K3.out) (fun _ => ?_)
  clear hK K
  refine wpAnyH_ready (rs := [7]) (by kernel_rfl) (by simp) ?_
  refine AllReadyH.cons rfl (fun K hK => ?_) AllReadyH.nil
  go_simp
  rw [mn3]
  refine hK.out _ _ (rangeB K3.out) (fun _ => ?_)
  clear hK K
  refine wpAnyH_ready (rs := [8]) (by kernel_rfl) (by simp) ?_
  refine AllReadyH.cons rfl (fun K hK => ?_) AllReadyH.nil
  go_simp
  refine hK.out _ _ (rangeB K3.out) (fun _ => ?_)
  clear hK K
  refine wpAnyH_done (by kernel_rfl) ?_ _
  go_wp2
  go_ret
  exact ⟨rfl, hB3⟩
end Go.Proofs.Ytfiaikmlnemnfaa.C
