/-
  Contracts: a world at rest.
-/
import Derived.Test.YtfiaikmlnemnfaaM4
namespace Go.Proofs.Ytfiaikmlnemnfaa.C
open Go.RowKit L D

def quiet (x : Wld) : Bool := pending x.devices == 0 && unread x.devices x.devices.length == 0
theorem spec_IsQuiet (w : World) (cs : List Value) (x : Wld) (fp : List Nat) (h : EWld w cs x fp) (_hs : size_Wld x ≤ 1048576) (_hw : wf_Wld x) :
    Calls Try.prog 26 #[.agg cs.toArray] w (Gives w (.bool (quiet x))) := by
  have H0 := Lib.hid h
  obtain ⟨v1, v2, cA, v3, f1, f2, f3, f4, rfl, _, h2, ⟨v4, f5, rfl, _, rfl⟩, _, rfl⟩ := h
  obtain ⟨oa, cap, rfl, _⟩ := h2
  go_enter Try.func26, Try.ntmps26
  go_wp2_with fail
  refine (spec_PendingMessages _ _ _ _ (good_Wld.below H0.out ((Below.refl _ _).alloc (Nat.le_refl _) _)) _hs _hw).mono ?_
  rintro e w2 ⟨rfl, hb2⟩
  have k0 := blk hb2 (alloc_top rfl)
  have c0 := cellB k0; clear k0
  have hB := ((Below.refl w.heap.size w).alloc (Nat.le_refl _) _).trans (hb2.mono (by simp))
  by_cases h : pending x.devices = 0
  · have hd : (pending x.devices == 0) = true := by simpa using h
    clear h
    go_wp2_with fail
    refine (spec_UnreadMessages _ _ _ _ (good_Wld.below H0.out hB) _hs _hw).mono ?_
    rintro e w3 ⟨rfl, hb3⟩
    have hC := hB.trans (hb3.mono hB.size)
    clear hb3 c0
    go_wp2
    go_ret
    exact ⟨ret_bool (by rw [quiet, hd, Bool.true_and]), hC⟩
  · have hd : (pending x.devices == 0) = false := by simpa using h
    clear h
    go_wp2
    go_ret
    exact ⟨ret_bool (by rw [quiet, hd, Bool.false_and]), hB⟩
theorem impl_IsQuiet (w : World) (cs : List Value) (x : Wld) (fp : List Nat) (h : EWld w cs x fp) (_hs : size_Wld x ≤ 1048576) (_hw : wf_Wld x) :
    Calls Try.prog 27 #[.agg cs.toArray] w (Gives w (.bool (quiet x))) := by
  have H0 := Lib.hid h
  obtain ⟨v1, v2, cA, v3, f1, f2, f3, f4, rfl, _, h2, ⟨v4, f5, rfl, _, rfl⟩, _, rfl⟩ := h
  obtain ⟨oa, cap, rfl, _⟩ := h2
  go_enter Try.func27, Try.ntmps27
  go_wp2_with fail
  refine (impl_PendingMessages _ _ _ _ (good_Wld.below H0.out ((Below.refl _ _).alloc (Nat.le_refl _) _)) _hs _hw).mono ?_
  rintro e w2 ⟨rfl, hb2⟩
  have k0 := blk hb2 (alloc_top rfl)
  have c0 := cellB k0; clear k0
  have hB := ((Below.refl w.heap.size w).alloc (Nat.le_refl _) _).trans (hb2.mono (by simp))
  by_cases h : pending x.devices = 0
  · have hd : (pending x.devices == 0) = true := by simpa using h
    clear h
    go_wp2_with fail
    refine (impl_UnreadMessages _ _ _ _ (good_Wld.below H0.out hB) _hs _hw).mono ?_
    rintro e w3 ⟨rfl, hb3⟩
    have hC := hB.trans (hb3.mono hB.size)
    clear hb3 c0
    go_wp2
    go_ret
    exact ⟨ret_bool (by rw [quiet, hd, Bool.true_and]), hC⟩
  · have hd : (pending x.devices == 0) = false := by simpa using h
    clear h
    go_wp2
    go_ret
    exact ⟨ret_bool (by rw [quiet, hd, Bool.false_and]), hB⟩
end Go.Proofs.Ytfiaikmlnemnfaa.C
